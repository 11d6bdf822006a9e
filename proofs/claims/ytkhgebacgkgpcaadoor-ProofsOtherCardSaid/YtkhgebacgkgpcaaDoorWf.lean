import Derived.Test.YtkhgebacgkgpcaaDoorWa
import Derived.Test.YtkhgebacgkgpcaaDoorLu
import Derived.Test.YtkhgebacgkgpcaaDoorTg
import Derived.Test.YtkhgebacgkgpcaaDoorWz
/-
  consist.Check's helpers, walked: the closure up, slices.Grow, slices.Concat.
-/
namespace Go.Proofs.YtkhgebacgkgpcaaDoor.L
open Go
set_option linter.unusedSectionVars false
variable [Globs] [Has_sha_table] [Has_sha_begin]
set_option linter.unusedVariables false
set_option linter.unusedSimpArgs false
attribute [local irreducible] J Lq E OpP PRun is any agg tup ptr sl PRunW OpE
attribute [local irreducible] up2 mroot nodeH leafH emptyH shaH ownAt row someL leafOf splitZ split rv
theorem up_fnR (b1 b2 e1 e2 i l i' l' : Nat) (hi : i / 2 = i') (hl : l / 2 = l') : FnR Tryd.prog 31 [is (.pointer (some ⟨b1, 0, none⟩)), is (.pointer (some ⟨b2, 0, none⟩))] [own b1 e1 [is (.int .i64 (i : Int))], own b2 e2 [is (.int .i64 (l : Int))]]
    (fun ψ Δ => ψ = any ∧ Δ = [own b1 e1 [is (.int .i64 (i' : Int))], own b2 e2 [is (.int .i64 (l' : Int))]]) := by
  refine FnR.mk' 6 Tryd.func31 rfl rfl rfl rfl fun w0 H0 => ?_
  refine J.drawW2 6 [(some 0, some 0), (none, none), (some 1, some 1), (none, none), (some 0, some 0), (some 1, some 1)] 0 1 (itemA b1 e1 [is (.int .i64 (i : Int))]) (itemA b2 e2 [is (.int .i64 (l : Int))]) (by decide) rfl rfl (by rw [itemA_self, itemA_self]) mixed (by kernel_rfl) ?_
  refine PRunW.ldG (intT .i64) (v := (i : Int)) (by decide) itemA_fst rfl rfl rfl ?_
  refine PRunW.s (op_shr1 rfl rfl hi) ?_
  refine PRunW.ldG (intT .i64) (v := (l : Int)) (by decide) itemA_fst rfl rfl rfl ?_
  refine PRunW.s (op_shr1 rfl rfl hl) ?_
  refine PRunW.stG (R1 := itemA b1 e1 [is (.int .i64 (i' : Int))]) itemA_own rfl rfl rfl (Seg.is rfl) rfl (Nat.le_refl _) rfl ?_
  refine PRunW.stG (R1 := itemA b2 e2 [is (.int .i64 (l' : Int))]) itemA_own rfl rfl rfl (Seg.is rfl) rfl (Nat.le_refl _) rfl ?_
  refine PRunW.nil (Open.av (Open.av ?_))
  repeat (first | ((first | apply PRunW.s | (apply PRunW.run; rfl; rfl; exact bsB) | (apply Lq.s; rfl) | apply PRun.s | (apply Lq.run; rfl; rfl; rfl; exact bsB) | (apply PRun.run; rfl; rfl; exact bsB)); first | (exact bsO)) | apply J.seq | apply E.next | apply J.lq | apply Lq.nil | apply PRun.nil | apply J.block | apply E.in_normal | apply J.skip | (apply Lq.store; rfl; rfl; exact bsP; exact bsS; rfl; rfl) | (apply PRun.al; rfl) | (apply Lq.al; rfl; rfl; intro b) | (apply Open.cons; intro b) | apply Open.nil | (apply Lq.pass; rfl; rfl; rfl) | (apply PRun.pass; rfl; rfl) | (apply Lq.skip; rfl; rfl; rfl; exact bsB) | (apply PRun.skip; rfl; rfl; exact bsB) | (apply J.cond_t; rfl) | (apply J.cond_f; rfl) | apply J.exit | apply E.then_exit | apply E.in_exit | (apply E.in_other; rfl) | apply PRunW.nil | (apply PRunW.al; rfl) | (apply PRunW.pass; rfl; rfl) | (apply PRunW.skip; rfl; rfl; exact bsB) | (apply Open.pv; intro b) | apply Open.av | (apply Open.rv; intro A c))
  exact E.retR0 (G := []) .normal (.inr rfl) rfl (fun _ => any_h) ⟨rfl, rfl⟩ (List.Perm.refl _)
theorem grow_fnR (n : Nat) (hn : n ≤ 200000) : FnR Tryd.prog 48 [is (.slice none 0 0), is (.int .i64 (n : Int))] [] (fun ψ Δ => ∃ A c, ψ = is (.slice A 0 c) ∧ Δ = [row (.slice A 0 c) 27 hashT.toTy []]) := by
  refine FnR.mk' 27 Tryd.func48 rfl rfl rfl rfl fun w0 H0 => ?_
  by_cases h0 : n = 0
  · subst h0
    refine J.nilrow 27 hashT.toTy ?_
    repeat (first | ((first | (apply Lq.s; rfl) | apply PRun.s | (apply Lq.run; rfl; rfl; rfl; exact bsB) | (apply PRun.run; rfl; rfl; exact bsB)); first | (apply op_slen; rfl) | (apply op_scap; rfl) | (exact bsO)) | apply J.seq | apply E.next | apply J.lq | apply Lq.nil | apply PRun.nil | apply J.block | apply E.in_normal | apply J.skip | (apply Lq.store; rfl; rfl; exact bsP; exact bsS; rfl; rfl) | (apply PRun.al; rfl) | (apply Lq.al; rfl; rfl; intro b) | (apply Open.cons; intro b) | apply Open.nil | (apply Lq.pass; rfl; rfl; rfl) | (apply PRun.pass; rfl; rfl) | (apply Lq.skip; rfl; rfl; rfl; exact bsB) | (apply PRun.skip; rfl; rfl; exact bsB) | (apply J.drawN; exact mixed; kernel_rfl) | (apply J.cond_t; rfl) | (apply J.cond_f; rfl) | apply J.exit | apply E.then_exit | apply E.in_exit | (apply E.in_other; rfl))
    (refine J.ret ?_; (repeat (first | refine E.then_ret ?_ | refine E.in_ret ?_)))
    refine E.retR1 (Δ' := [row (.slice none 0 0) 27 hashT.toTy []]) (G := []) rfl rfl ⟨none, 0, rfl, rfl⟩ (List.Perm.refl _)
  · repeat (first | ((first | (apply Lq.s; rfl) | apply PRun.s | (apply Lq.run; rfl; rfl; rfl; exact bsB) | (apply PRun.run; rfl; rfl; exact bsB)); first | (apply op_slen; rfl) | (apply op_scap; rfl) | (apply op_nsl_hi; rfl; rfl) | (apply op_sub (c := ((n : Nat) : Int)); rfl; rfl; (rw [show (n : Int) - (((0 : Nat) : Int) - ((0 : Nat) : Int)) = ((n : Nat) : Int) by omega]; apply wrapi <;> omega)) | (exact bsO)) | apply J.seq | apply E.next | apply J.lq | apply Lq.nil | apply PRun.nil | apply J.block | apply E.in_normal | apply J.skip | (apply Lq.store; rfl; rfl; exact bsP; exact bsS; rfl; rfl) | (apply PRun.al; rfl) | (apply Lq.al; rfl; rfl; intro b) | (apply Open.cons; intro b) | apply Open.nil | (apply Lq.pass; rfl; rfl; rfl) | (apply PRun.pass; rfl; rfl) | (apply Lq.skip; rfl; rfl; rfl; exact bsB) | (apply PRun.skip; rfl; rfl; exact bsB) | (apply J.drawN; exact mixed; kernel_rfl) | (apply J.cond_t; rfl) | (apply J.cond_f; rfl) | apply J.exit | apply E.then_exit | apply E.in_exit | (apply E.in_other; rfl))
    (apply Lq.appendN (T := hashT) (n := n); rfl; rfl; rfl; rfl; rfl; omega; (unfold maxLen; omega); omega)
    intro bb cap
    repeat (first | ((first | (apply Lq.s; rfl) | apply PRun.s | (apply Lq.run; rfl; rfl; rfl; exact bsB) | (apply PRun.run; rfl; rfl; exact bsB)); first | (apply op_slen; rfl) | (apply op_sl_hi (hi := 0); rfl; rfl; omega) | (exact bsO)) | apply J.seq | apply E.next | apply J.lq | apply Lq.nil | apply PRun.nil | apply J.block | apply E.in_normal | apply J.skip | (apply Lq.store; rfl; rfl; exact bsP; exact bsS; rfl; rfl) | (apply PRun.al; rfl) | (apply Lq.al; rfl; rfl; intro b) | (apply Open.cons; intro b) | apply Open.nil | (apply Lq.pass; rfl; rfl; rfl) | (apply PRun.pass; rfl; rfl) | (apply Lq.skip; rfl; rfl; rfl; exact bsB) | (apply PRun.skip; rfl; rfl; exact bsB) | (apply J.drawN; exact mixed; kernel_rfl) | (apply J.cond_t; rfl) | (apply J.cond_f; rfl) | apply J.exit | apply E.then_exit | apply E.in_exit | (apply E.in_other; rfl))
    (refine J.ret ?_; (repeat (first | refine E.then_ret ?_ | refine E.in_ret ?_)))
    exact E.retR1 (Δ' := [row (.slice (some ⟨bb, 0, none⟩) 0 cap) 27 hashT.toTy []]) (G := []) rfl rfl ⟨_, _, rfl, rfl⟩ (List.Perm.refl _)
theorem flat_snoc {α : Type} {xss : List (List α)} {i : Nat} {x : List α} (h : xss[i]? = some x) : (xss.take (i + 1)).flatten = (xss.take i).flatten ++ x := by
  rw [List.take_add_one, h]
  simp
theorem flat_le {α : Type} (xss : List (List α)) (i : Nat) : (xss.take i).flatten.length ≤ xss.flatten.length := by
  conv => rhs; rw [← List.take_append_drop i xss, List.flatten_append, List.length_append]
  omega
set_option maxHeartbeats 1000000 in
theorem concat_fn (xss : List (List Hash)) (hn : xss.length ≤ 1000) (hl : xss.flatten.length ≤ 90000) : Fn Tryd.prog 30 [sl (slT hashT).toTy xss] (sl hashT.toTy xss.flatten) := by
  refine Fn.mk' 36 Tryd.func30 rfl rfl rfl rfl fun w0 H0 => ?_
  repeat (first | ((first | (apply Lq.s; rfl) | apply PRun.s | (apply Lq.run; rfl; rfl; rfl; exact bsB) | (apply PRun.run; rfl; rfl; exact bsB)); first | (exact bsO)) | apply J.seq | apply E.next | apply J.lq | apply Lq.nil | apply PRun.nil | apply J.block | apply E.in_normal | apply J.skip | (apply Lq.store; rfl; rfl; exact bsP; exact bsS; rfl; rfl) | (apply PRun.al; rfl) | (apply Lq.al; rfl; rfl; intro b) | (apply Open.cons; intro b) | apply Open.nil | (apply Lq.pass; rfl; rfl; rfl) | (apply PRun.pass; rfl; rfl) | (apply Lq.skip; rfl; rfl; rfl; exact bsB) | (apply PRun.skip; rfl; rfl; exact bsB) | (apply J.drawN; exact mixed; kernel_rfl) | (apply J.cond_t; rfl) | (apply J.cond_f; rfl) | apply J.exit | apply E.then_exit | apply E.in_exit | (apply E.in_other; rfl))
  refine J.loop (fun i : Nat => i ≤ xss.length) (fun i => [(0, sl (slT hashT).toTy xss), (9, sl (slT hashT).toTy xss), (10, is (.int .i64 (xss.length : Int))), (11, is (.int .i64 (i : Int))), (3, is (.int .i64 ((xss.take i).flatten.length : Int)))]) (fun _ => []) (fun i => xss.length - i) 0 (Nat.zero_le _) (Sub.same (by repeat' (first | exact trivial | refine ⟨rfl, ?_⟩))) ?_
  intro i hi
  have hb := flat_le xss i
  by_cases hlt : i < xss.length
  · obtain ⟨x, hx⟩ : ∃ x, xss[i]? = some x := ⟨_, List.getElem?_eq_getElem hlt⟩
    have hs := flat_snoc hx
    have hb2 := flat_le xss (i + 1)
    have hsl := congrArg List.length hs
    rw [List.length_append] at hsl
    repeat (first | ((first | (apply Lq.s; rfl) | apply PRun.s | (apply Lq.run; rfl; rfl; rfl; exact bsB) | (apply PRun.run; rfl; rfl; exact bsB)); first | (apply op_iaddr (slT hashT).toTy (x := x); rfl; rfl; exact Int.natCast_nonneg _; (rw [Int.toNat_natCast]; exact hx)) | (apply op_load (slT hashT); rfl) | (apply op_len (xs := x); rfl) | (apply op_add (c := ((xss.take (i + 1)).flatten.length : Int)); rfl; rfl; (rw [hsl]; apply wrapi <;> omega)) | (exact bsO)) | apply J.seq | apply E.next | apply J.lq | apply Lq.nil | apply PRun.nil | apply J.block | apply E.in_normal | apply J.skip | (apply Lq.store; rfl; rfl; exact bsP; exact bsS; rfl; rfl) | (apply PRun.al; rfl) | (apply Lq.al; rfl; rfl; intro b) | (apply Open.cons; intro b) | apply Open.nil | (apply Lq.pass; rfl; rfl; rfl) | (apply PRun.pass; rfl; rfl) | (apply Lq.skip; rfl; rfl; rfl; exact bsB) | (apply PRun.skip; rfl; rfl; exact bsB) | (apply J.drawN; exact mixed; kernel_rfl) | (apply J.cond_t; rfl) | (apply J.cond_f; rfl) | apply J.exit | apply E.then_exit | apply E.in_exit | (apply E.in_other; rfl))
    exact E.again (i + 1) (by omega) (by omega) (Sub.same (by repeat' (first | exact trivial | refine ⟨rfl, ?_⟩)))
  · obtain rfl : i = xss.length := by omega
    rw [List.take_length]
    repeat (first | ((first | (apply Lq.s; rfl) | apply PRun.s | (apply Lq.run; rfl; rfl; rfl; exact bsB) | (apply PRun.run; rfl; rfl; exact bsB)); first | (exact bsO)) | apply J.seq | apply E.next | apply J.lq | apply Lq.nil | apply PRun.nil | apply J.block | apply E.in_normal | apply J.skip | (apply Lq.store; rfl; rfl; exact bsP; exact bsS; rfl; rfl) | (apply PRun.al; rfl) | (apply Lq.al; rfl; rfl; intro b) | (apply Open.cons; intro b) | apply Open.nil | (apply Lq.pass; rfl; rfl; rfl) | (apply PRun.pass; rfl; rfl) | (apply Lq.skip; rfl; rfl; rfl; exact bsB) | (apply PRun.skip; rfl; rfl; exact bsB) | (apply J.drawN; exact mixed; kernel_rfl) | (apply J.cond_t; rfl) | (apply J.cond_f; rfl) | apply J.exit | apply E.then_exit | apply E.in_exit | (apply E.in_other; rfl))
    refine Lq.callS (Δ0 := []) (Δf := []) (grow_fnR xss.flatten.length (by omega)) rfl bsD (List.Perm.refl _) ?_
    rintro _ _ ⟨A, c, rfl, rfl⟩
    repeat (first | ((first | (apply Lq.s; rfl) | apply PRun.s | (apply Lq.run; rfl; rfl; rfl; exact bsB) | (apply PRun.run; rfl; rfl; exact bsB)); first | (exact bsO)) | apply J.seq | apply E.next | apply J.lq | apply Lq.nil | apply PRun.nil | apply J.block | apply E.in_normal | apply J.skip | (apply Lq.store; rfl; rfl; exact bsP; exact bsS; rfl; rfl) | (apply PRun.al; rfl) | (apply Lq.al; rfl; rfl; intro b) | (apply Open.cons; intro b) | apply Open.nil | (apply Lq.pass; rfl; rfl; rfl) | (apply PRun.pass; rfl; rfl) | (apply Lq.skip; rfl; rfl; rfl; exact bsB) | (apply PRun.skip; rfl; rfl; exact bsB) | (apply J.drawN; exact mixed; kernel_rfl) | (apply J.cond_t; rfl) | (apply J.cond_f; rfl) | apply J.exit | apply E.then_exit | apply E.in_exit | (apply E.in_other; rfl))
    refine J.loop (fun p : Nat × Option Addr × Nat => p.1 ≤ xss.length) (fun p => [(25, sl (slT hashT).toTy xss), (26, is (.int .i64 (xss.length : Int))), (27, is (.int .i64 (p.1 : Int))), (6, is (.slice p.2.1 (xss.take p.1).flatten.length p.2.2))]) (fun p => [row (.slice p.2.1 (xss.take p.1).flatten.length p.2.2) 27 hashT.toTy (xss.take p.1).flatten]) (fun p => xss.length - p.1) (0, A, c) (Nat.zero_le _) (Sub.same (by repeat' (first | exact trivial | refine ⟨rfl, ?_⟩))) ?_
    rintro ⟨i, A1, c1⟩ hi
    dsimp only at hi ⊢
    by_cases hlt : i < xss.length
    · obtain ⟨x, hx⟩ : ∃ x, xss[i]? = some x := ⟨_, List.getElem?_eq_getElem hlt⟩
      have hs := flat_snoc hx
      have hb2 := flat_le xss (i + 1)
      have hsl := congrArg List.length hs
      rw [List.length_append] at hsl
      repeat (first | ((first | (apply Lq.s; rfl) | apply PRun.s | (apply Lq.run; rfl; rfl; rfl; exact bsB) | (apply PRun.run; rfl; rfl; exact bsB)); first | (apply op_iaddr (slT hashT).toTy (x := x); rfl; rfl; exact Int.natCast_nonneg _; (rw [Int.toNat_natCast]; exact hx)) | (apply op_load (slT hashT); rfl) | (exact bsO)) | apply J.seq | apply E.next | apply J.lq | apply Lq.nil | apply PRun.nil | apply J.block | apply E.in_normal | apply J.skip | (apply Lq.store; rfl; rfl; exact bsP; exact bsS; rfl; rfl) | (apply PRun.al; rfl) | (apply Lq.al; rfl; rfl; intro b) | (apply Open.cons; intro b) | apply Open.nil | (apply Lq.pass; rfl; rfl; rfl) | (apply PRun.pass; rfl; rfl) | (apply Lq.skip; rfl; rfl; rfl; exact bsB) | (apply PRun.skip; rfl; rfl; exact bsB) | (apply J.drawN; exact mixed; kernel_rfl) | (apply J.cond_t; rfl) | (apply J.cond_f; rfl) | apply J.exit | apply E.then_exit | apply E.in_exit | (apply E.in_other; rfl))
      (apply Lq.append (T := hashT) (xs := (xss.take i).flatten) (ys := x); rfl; exact List.Perm.refl _; (apply From.sl; rfl); rfl; rfl; rfl; (unfold maxLen; omega); (show (_ + _) * 32 ≤ _; omega))
      intro A2 c2
      rw [← hs]
      repeat (first | ((first | (apply Lq.s; rfl) | apply PRun.s | (apply Lq.run; rfl; rfl; rfl; exact bsB) | (apply PRun.run; rfl; rfl; exact bsB)); first | (exact bsO)) | apply J.seq | apply E.next | apply J.lq | apply Lq.nil | apply PRun.nil | apply J.block | apply E.in_normal | apply J.skip | (apply Lq.store; rfl; rfl; exact bsP; exact bsS; rfl; rfl) | (apply PRun.al; rfl) | (apply Lq.al; rfl; rfl; intro b) | (apply Open.cons; intro b) | apply Open.nil | (apply Lq.pass; rfl; rfl; rfl) | (apply PRun.pass; rfl; rfl) | (apply Lq.skip; rfl; rfl; rfl; exact bsB) | (apply PRun.skip; rfl; rfl; exact bsB) | (apply J.drawN; exact mixed; kernel_rfl) | (apply J.cond_t; rfl) | (apply J.cond_f; rfl) | apply J.exit | apply E.then_exit | apply E.in_exit | (apply E.in_other; rfl))
      exact E.again (i + 1, A2, c2) (by dsimp only; omega) (by dsimp only; omega) (Sub.same (by repeat' (first | exact trivial | refine ⟨rfl, ?_⟩)))
    · obtain rfl : i = xss.length := by omega
      rw [List.take_length]
      refine J.freeze 6 rfl (List.Perm.refl _) ?_
      repeat (first | ((first | (apply Lq.s; rfl) | apply PRun.s | (apply Lq.run; rfl; rfl; rfl; exact bsB) | (apply PRun.run; rfl; rfl; exact bsB)); first | (exact bsO)) | apply J.seq | apply E.next | apply J.lq | apply Lq.nil | apply PRun.nil | apply J.block | apply E.in_normal | apply J.skip | (apply Lq.store; rfl; rfl; exact bsP; exact bsS; rfl; rfl) | (apply PRun.al; rfl) | (apply Lq.al; rfl; rfl; intro b) | (apply Open.cons; intro b) | apply Open.nil | (apply Lq.pass; rfl; rfl; rfl) | (apply PRun.pass; rfl; rfl) | (apply Lq.skip; rfl; rfl; rfl; exact bsB) | (apply PRun.skip; rfl; rfl; exact bsB) | (apply J.drawN; exact mixed; kernel_rfl) | (apply J.cond_t; rfl) | (apply J.cond_f; rfl) | apply J.exit | apply E.then_exit | apply E.in_exit | (apply E.in_other; rfl))
      (refine J.ret ?_; (repeat (first | refine E.then_ret ?_ | refine E.in_ret ?_)))
      exact E.ret1 rfl rfl
end Go.Proofs.YtkhgebacgkgpcaaDoor.L
/-
  consist.Check, walked.
-/
namespace Go.Proofs.YtkhgebacgkgpcaaDoor.L
open Go
set_option linter.unusedSectionVars false
variable [Globs] [Has_sha_table] [Has_sha_begin]
theorem pair_set1 (p q r : Hash) : splice (pairT.cells ⟨[p, q], rfl⟩) (0 + (1 : Int).toNat * 32) (hashT.cells r) = pairT.cells ⟨[p, r], rfl⟩ := by
  unfold pairT
  exact set_flat0 hashT.toTy (xs := [p, q]) (k := 1) (v := r) (show 1 < 2 by decide)
theorem foldC_one (x : Hash × Hash) (ds : List (Bool × Hash)) (d : Bool × Hash) : foldC x (ds ++ [d]) = stepC (foldC x ds) d := by
  unfold foldC
  rw [List.foldl_append]
  rfl
theorem upH {H : IH} {b1 b2 : Nat} : ∀ vs, All2 (fun (φ : Pr) v => φ.h H v) [] vs → All2 (fun (φ : Pr) v => φ.h H v) [is (.pointer (some ⟨b1, 0, none⟩)), is (.pointer (some ⟨b2, 0, none⟩))] (vs ++ [.pointer (some ⟨b1, 0, none⟩), .pointer (some ⟨b2, 0, none⟩)])
  | [], _ => All2.of_is [_, _]
  | _ :: _, h => h.elim
def okS (W : List Bool) (a c : Hash) : List Hash → Bool
  | [] => false
  | x :: t => decide (t.length = W.length) && decide (foldC (x, x) (W.zip t) = (a, c))
theorem okC_st {m n : Nat} (h : m ≠ n) (a c : Hash) (pr : List Hash) : okC m n a c pr = okS (ways m n) a c (startC true m a pr) := by
  unfold okC
  rw [if_neg h]
  cases startC true m a pr <;> rfl
set_option linter.unusedVariables false
set_option linter.unusedSimpArgs false
attribute [local irreducible] J Lq E OpP PRun is any agg tup ptr sl PRunW OpE
attribute [local irreducible] up2 mroot nodeH leafH emptyH shaH ownAt row someL leafOf splitZ split rv ways pairT
theorem check_bad (m n : Int) (a b : Hash) (pr : List Hash) (h : m < 1 ∨ n < m) : Fn Tryd.prog 17 [is (.int .i64 m), is (.int .i64 n), hashT.val a, hashT.val b, sl hashT.toTy pr] (is (.int .i64 2)) := by
  by_cases h1 : m < 1
  · refine Fn.mk' 125 Tryd.func17 rfl rfl rfl rfl fun w0 H0 => ?_
    repeat (first | ((first | (apply Lq.s; rfl) | apply PRun.s | (apply Lq.run; rfl; rfl; rfl; exact bsB) | (apply PRun.run; rfl; rfl; exact bsB)); first | (apply op_box hashT; rfl) | (exact bsO)) | apply J.seq | apply E.next | apply J.lq | apply Lq.nil | apply PRun.nil | apply J.block | apply E.in_normal | apply J.skip | (apply Lq.store; rfl; rfl; exact bsP; exact bsS; rfl; rfl) | (apply PRun.al; rfl) | (apply Lq.al; rfl; rfl; intro b) | (apply Open.cons; intro b) | apply Open.nil | (apply Lq.pass; rfl; rfl; rfl) | (apply PRun.pass; rfl; rfl) | (apply Lq.skip; rfl; rfl; rfl; exact bsB) | (apply PRun.skip; rfl; rfl; exact bsB) | (apply J.cond_t; rfl) | (apply J.cond_f; rfl) | apply J.exit | apply E.then_exit | apply E.in_exit | (apply E.in_other; rfl))
    (refine J.ret ?_; (repeat (first | refine E.then_ret ?_ | refine E.in_ret ?_)))
    exact E.ret1 rfl rfl
  · have h2 : n < m := by omega
    refine Fn.mk' 125 Tryd.func17 rfl rfl rfl rfl fun w0 H0 => ?_
    repeat (first | ((first | (apply Lq.s; rfl) | apply PRun.s | (apply Lq.run; rfl; rfl; rfl; exact bsB) | (apply PRun.run; rfl; rfl; exact bsB)); first | (apply op_box hashT; rfl) | (exact bsO)) | apply J.seq | apply E.next | apply J.lq | apply Lq.nil | apply PRun.nil | apply J.block | apply E.in_normal | apply J.skip | (apply Lq.store; rfl; rfl; exact bsP; exact bsS; rfl; rfl) | (apply PRun.al; rfl) | (apply Lq.al; rfl; rfl; intro b) | (apply Open.cons; intro b) | apply Open.nil | (apply Lq.pass; rfl; rfl; rfl) | (apply PRun.pass; rfl; rfl) | (apply Lq.skip; rfl; rfl; rfl; exact bsB) | (apply PRun.skip; rfl; rfl; exact bsB) | (apply J.cond_t; rfl) | (apply J.cond_f; rfl) | apply J.exit | apply E.then_exit | apply E.in_exit | (apply E.in_other; rfl))
    (refine J.ret ?_; (repeat (first | refine E.then_ret ?_ | refine E.in_ret ?_)))
    exact E.ret1 rfl rfl
theorem check_same (m : Int) (a b : Hash) (pr : List Hash) (h : 1 ≤ m) : Fn Tryd.prog 17 [is (.int .i64 m), is (.int .i64 m), hashT.val a, hashT.val b, sl hashT.toTy pr] (is (.int .i64 (if pr.isEmpty && decide (a = b) then 0 else 110))) := by
  cases pr with
  | cons y pr =>
    have hp : (y :: pr).length = pr.length + 1 := rfl
    refine Fn.mk' 125 Tryd.func17 rfl rfl rfl rfl fun w0 H0 => ?_
    repeat (first | ((first | (apply Lq.s; rfl) | apply PRun.s | (apply Lq.run; rfl; rfl; rfl; exact bsB) | (apply PRun.run; rfl; rfl; exact bsB)); first | (apply op_box hashT; rfl) | (exact bsO)) | apply J.seq | apply E.next | apply J.lq | apply Lq.nil | apply PRun.nil | apply J.block | apply E.in_normal | apply J.skip | (apply Lq.store; rfl; rfl; exact bsP; exact bsS; rfl; rfl) | (apply PRun.al; rfl) | (apply Lq.al; rfl; rfl; intro b) | (apply Open.cons; intro b) | apply Open.nil | (apply Lq.pass; rfl; rfl; rfl) | (apply PRun.pass; rfl; rfl) | (apply Lq.skip; rfl; rfl; rfl; exact bsB) | (apply PRun.skip; rfl; rfl; exact bsB) | (apply J.cond_t; rfl) | (apply J.cond_f; rfl) | apply J.exit | apply E.then_exit | apply E.in_exit | (apply E.in_other; rfl))
    (refine J.ret ?_; (repeat (first | refine E.then_ret ?_ | refine E.in_ret ?_)))
    exact E.ret1 rfl rfl
  | nil =>
    have hp : ([] : List Hash).length = 0 := rfl
    by_cases hab : a = b
    · rw [if_pos (by rw [decide_eq_true hab]; rfl)]
      refine Fn.mk' 125 Tryd.func17 rfl rfl rfl rfl fun w0 H0 => ?_
      repeat (first | ((first | (apply Lq.s; rfl) | apply PRun.s | (apply Lq.run; rfl; rfl; rfl; exact bsB) | (apply PRun.run; rfl; rfl; exact bsB)); first | (apply op_box hashT; rfl) | (apply op_load hashT; rfl) | (apply op_neA_f (T := hashT) (m := 2) (eqd_arr eqd_u8) rfl rfl; rfl; rfl; exact hab) | (exact bsO)) | apply J.seq | apply E.next | apply J.lq | apply Lq.nil | apply PRun.nil | apply J.block | apply E.in_normal | apply J.skip | (apply Lq.store; rfl; rfl; exact bsP; exact bsS; rfl; rfl) | (apply PRun.al; rfl) | (apply Lq.al; rfl; rfl; intro b) | (apply Open.cons; intro b) | apply Open.nil | (apply Lq.pass; rfl; rfl; rfl) | (apply PRun.pass; rfl; rfl) | (apply Lq.skip; rfl; rfl; rfl; exact bsB) | (apply PRun.skip; rfl; rfl; exact bsB) | (apply J.cond_t; rfl) | (apply J.cond_f; rfl) | apply J.exit | apply E.then_exit | apply E.in_exit | (apply E.in_other; rfl))
      (refine J.ret ?_; (repeat (first | refine E.then_ret ?_ | refine E.in_ret ?_)))
      exact E.ret1 rfl rfl
    · rw [if_neg (by rw [decide_eq_false hab]; decide)]
      refine Fn.mk' 125 Tryd.func17 rfl rfl rfl rfl fun w0 H0 => ?_
      repeat (first | ((first | (apply Lq.s; rfl) | apply PRun.s | (apply Lq.run; rfl; rfl; rfl; exact bsB) | (apply PRun.run; rfl; rfl; exact bsB)); first | (apply op_box hashT; rfl) | (apply op_load hashT; rfl) | (apply op_neA_t (T := hashT) (m := 2) (eqd_arr eqd_u8) rfl rfl; rfl; rfl; exact hab) | (exact bsO)) | apply J.seq | apply E.next | apply J.lq | apply Lq.nil | apply PRun.nil | apply J.block | apply E.in_normal | apply J.skip | (apply Lq.store; rfl; rfl; exact bsP; exact bsS; rfl; rfl) | (apply PRun.al; rfl) | (apply Lq.al; rfl; rfl; intro b) | (apply Open.cons; intro b) | apply Open.nil | (apply Lq.pass; rfl; rfl; rfl) | (apply PRun.pass; rfl; rfl) | (apply Lq.skip; rfl; rfl; rfl; exact bsB) | (apply PRun.skip; rfl; rfl; exact bsB) | (apply J.cond_t; rfl) | (apply J.cond_f; rfl) | apply J.exit | apply E.then_exit | apply E.in_exit | (apply E.in_other; rfl))
      (refine J.ret ?_; (repeat (first | refine E.then_ret ?_ | refine E.in_ret ?_)))
      exact E.ret1 rfl rfl
set_option maxHeartbeats 4000000 in
theorem check_lt (m n : Nat) (u v : Hash) (pr : List Hash) (h1 : 1 ≤ m) (hm : m < n) (hn : n < 2 ^ 63) (hl : pr.length ≤ 80000) : Fn Tryd.prog 17 [is (.int .i64 (m : Int)), is (.int .i64 (n : Int)), hashT.val u, hashT.val v, sl hashT.toTy pr] (is (.int .i64 (if okC m n u v pr = true then 0 else 110))) := by
  obtain ⟨st, hst⟩ : ∃ st, st = startC true m u pr := ⟨_, rfl⟩
  have hok : okC m n u v pr = okS (ways m n) u v st := by rw [hst]; exact okC_st (by omega) u v pr
  have hw0 : wl (m - 1) (n - 1) = ways m n := by unfold ways; rw [if_neg (by omega)]
  generalize okC m n u v pr = ok at hok ⊢
  have hn' : n < 9223372036854775808 := hn
  refine Fn.mk' 125 Tryd.func17 rfl rfl rfl rfl fun w0 H0 => ?_
  repeat (first | ((first | (apply Lq.s; rfl) | apply PRun.s | (apply Lq.run; rfl; rfl; rfl; exact bsB) | (apply PRun.run; rfl; rfl; exact bsB)); first | (apply op_box hashT; rfl) | (apply op_sub (c := ((m - 1 : Nat) : Int)); rfl; rfl; (rw [show (m : Int) - 1 = ((m - 1 : Nat) : Int) by omega]; apply wrapi <;> omega)) | (apply op_andn (m := m) (n := m - 1); rfl; rfl; omega; omega) | (exact bsO)) | apply J.seq | apply E.next | apply J.lq | apply Lq.nil | apply PRun.nil | apply J.block | apply E.in_normal | apply J.skip | (apply Lq.store; rfl; rfl; exact bsP; exact bsS; rfl; rfl) | (apply PRun.al; rfl) | (apply Lq.al; rfl; rfl; intro b) | (apply Open.cons; intro b) | apply Open.nil | (apply Lq.pass; rfl; rfl; rfl) | (apply PRun.pass; rfl; rfl) | (apply Lq.skip; rfl; rfl; rfl; exact bsB) | (apply PRun.skip; rfl; rfl; exact bsB) | (apply J.cond_t; rfl) | (apply J.cond_f; rfl) | apply J.exit | apply E.then_exit | apply E.in_exit | (apply E.in_other; rfl))
  refine J.mid (fun _ : Unit => True) (fun _ => [(0, is (.int .i64 (m : Int))), (1, is (.int .i64 (n : Int))), (4, sl hashT.toTy st), (7, ptr (hashT.cells u)), (8, ptr (hashT.cells v)), (10, is (.int .i64 0))]) (fun _ => []) ?_ ?_
  · refine J.cond _ rfl (fun hb => ?_) (fun hb => ?_)
    · have hp : pw m = true := by unfold pw; have := of_decide_eq_true hb; simp; omega
      have hs : st = u :: pr := by rw [hst]; unfold startC; rw [hp]; rfl
      have hcat := concat_fn [[u], pr] (show 2 ≤ 1000 by decide) (by simp; omega)
      rw [show [[u], pr].flatten = st by rw [hs]; simp] at hcat
      repeat (first | ((first | (apply Lq.s; rfl) | apply PRun.s | (apply Lq.run; rfl; rfl; rfl; exact bsB) | (apply PRun.run; rfl; rfl; exact bsB)); first | (apply op_load hashT; rfl) | (apply op_bslice hashT (xs := [u]); (repeat (first | exact PO.nil _ | (apply PO.cons; rfl))); rfl; rfl; rfl) | (apply op_bslice (slT hashT) (xs := [[u], pr]); (repeat (first | exact PO.nil _ | (apply PO.cons; rfl))); rfl; rfl; rfl) | (apply op_call hcat; exact bsD) | (exact bsO)) | apply J.seq | apply E.next | apply J.lq | apply Lq.nil | apply PRun.nil | apply J.block | apply E.in_normal | apply J.skip | (apply Lq.store; rfl; rfl; exact bsP; exact bsS; rfl; rfl) | (apply PRun.al; rfl) | (apply Lq.al; rfl; rfl; intro b) | (apply Open.cons; intro b) | apply Open.nil | (apply Lq.pass; rfl; rfl; rfl) | (apply PRun.pass; rfl; rfl) | (apply Lq.skip; rfl; rfl; rfl; exact bsB) | (apply PRun.skip; rfl; rfl; exact bsB) | (apply J.cond_t; rfl) | (apply J.cond_f; rfl) | apply J.exit | apply E.then_exit | apply E.in_exit | (apply E.in_other; rfl))
      exact E.mid () trivial (Sub.same (by repeat' (first | exact trivial | refine ⟨rfl, ?_⟩)))
    · have hp : pw m = false := by unfold pw; have := of_decide_eq_false hb; simp; omega
      have hs : st = pr := by rw [hst]; unfold startC; rw [hp]; rfl
      subst hs
      repeat (first | ((first | (apply Lq.s; rfl) | apply PRun.s | (apply Lq.run; rfl; rfl; rfl; exact bsB) | (apply PRun.run; rfl; rfl; exact bsB)); first | (exact bsO)) | apply J.seq | apply E.next | apply J.lq | apply Lq.nil | apply PRun.nil | apply J.block | apply E.in_normal | apply J.skip | (apply Lq.store; rfl; rfl; exact bsP; exact bsS; rfl; rfl) | (apply PRun.al; rfl) | (apply Lq.al; rfl; rfl; intro b) | (apply Open.cons; intro b) | apply Open.nil | (apply Lq.pass; rfl; rfl; rfl) | (apply PRun.pass; rfl; rfl) | (apply Lq.skip; rfl; rfl; rfl; exact bsB) | (apply PRun.skip; rfl; rfl; exact bsB) | (apply J.cond_t; rfl) | (apply J.cond_f; rfl) | apply J.exit | apply E.then_exit | apply E.in_exit | (apply E.in_other; rfl))
      exact E.mid () trivial (Sub.same (by repeat' (first | exact trivial | refine ⟨rfl, ?_⟩)))
  intro _ _
  have hstl : st.length ≤ pr.length + 1 := by rw [hst]; unfold startC; split <;> simp
  clear hst
  cases st with
  | nil =>
    have hp : ([] : List Hash).length = 0 := rfl
    have hok : ok = false := hok
    subst hok
    repeat (first | ((first | (apply Lq.s; rfl) | apply PRun.s | (apply Lq.run; rfl; rfl; rfl; exact bsB) | (apply PRun.run; rfl; rfl; exact bsB)); first | (exact bsO)) | apply J.seq | apply E.next | apply J.lq | apply Lq.nil | apply PRun.nil | apply J.block | apply E.in_normal | apply J.skip | (apply Lq.store; rfl; rfl; exact bsP; exact bsS; rfl; rfl) | (apply PRun.al; rfl) | (apply Lq.al; rfl; rfl; intro b) | (apply Open.cons; intro b) | apply Open.nil | (apply Lq.pass; rfl; rfl; rfl) | (apply PRun.pass; rfl; rfl) | (apply Lq.skip; rfl; rfl; rfl; exact bsB) | (apply PRun.skip; rfl; rfl; exact bsB) | (apply J.cond_t; rfl) | (apply J.cond_f; rfl) | apply J.exit | apply E.then_exit | apply E.in_exit | (apply E.in_other; rfl))
    (refine J.ret ?_; (repeat (first | refine E.then_ret ?_ | refine E.in_ret ?_)))
    exact E.ret1 rfl rfl
  | cons s0 tl =>
    have hp : (s0 :: tl).length = tl.length + 1 := rfl
    have hok : ok = (decide (tl.length = (ways m n).length) && decide (foldC (s0, s0) ((ways m n).zip tl) = (u, v))) := hok
    generalize ways m n = W at hok hw0
    repeat (first | ((first | (apply Lq.s; rfl) | apply PRun.s | (apply Lq.run; rfl; rfl; rfl; exact bsB) | (apply PRun.run; rfl; rfl; exact bsB)); first | (apply op_sub (c := ((m - 1 : Nat) : Int)); rfl; rfl; (rw [show (m : Int) - 1 = ((m - 1 : Nat) : Int) by omega]; apply wrapi <;> omega)) | (apply op_sub (c := ((n - 1 : Nat) : Int)); rfl; rfl; (rw [show (n : Int) - 1 = ((n - 1 : Nat) : Int) by omega]; apply wrapi <;> omega)) | (apply op_makeFunc (vs := [_, _]); exact bsD) | (exact bsO)) | apply J.seq | apply E.next | apply J.lq | apply Lq.nil | apply PRun.nil | apply J.block | apply E.in_normal | apply J.skip | (apply Lq.store; rfl; rfl; exact bsP; exact bsS; rfl; rfl) | (apply PRun.al; rfl) | (apply Lq.al; rfl; rfl; intro b) | (apply Open.cons; intro b) | apply Open.nil | (apply Lq.pass; rfl; rfl; rfl) | (apply PRun.pass; rfl; rfl) | (apply Lq.skip; rfl; rfl; rfl; exact bsB) | (apply PRun.skip; rfl; rfl; exact bsB) | (apply J.cond_t; rfl) | (apply J.cond_f; rfl) | apply J.exit | apply E.then_exit | apply E.in_exit | (apply E.in_other; rfl))
    rename_i b1
    revert b
    intro b2
    refine J.loop (fun p : Nat × Nat => p.1 < p.2 ∧ p.2 < n ∧ wl p.1 p.2 = W) (fun p => [(4, sl hashT.toTy (s0 :: tl)), (7, ptr (hashT.cells u)), (8, ptr (hashT.cells v)), (10, is (.int .i64 0)), (11, is (.pointer (some ⟨b1, 0, none⟩))), (12, is (.pointer (some ⟨b2, 0, none⟩))), (13, is (.func (.func 31) #[] [.pointer (some ⟨b1, 0, none⟩), .pointer (some ⟨b2, 0, none⟩)].toArray))]) (fun p => [own b1 3 [is (.int .i64 (p.1 : Int))], own b2 3 [is (.int .i64 (p.2 : Int))]]) (fun p => p.1) (m - 1, n - 1) ⟨by dsimp only; omega, by dsimp only; omega, hw0⟩ ⟨(by repeat' (first | exact trivial | refine ⟨rfl, ?_⟩)), [], List.Perm.swap _ _ _⟩ ?_
    rintro ⟨i, l⟩ ⟨hil, hln, hwl⟩
    dsimp only at hil hln hwl ⊢
    have hand := and_one i
    rcases Nat.mod_two_eq_zero_or_one i with hi2 | hi2
    · rw [wl_even hi2] at hwl
      repeat (first | ((first | (apply Lq.s; rfl) | apply PRun.s | (apply Lq.run; rfl; rfl; rfl; exact bsB) | (apply PRun.run; rfl; rfl; exact bsB)); first | (apply op_andn (m := i) (n := 1); rfl; rfl; omega; omega) | (exact bsO)) | apply J.seq | apply E.next | apply J.lq | apply Lq.nil | apply PRun.nil | apply J.block | apply E.in_normal | apply J.skip | (apply Lq.store; rfl; rfl; exact bsP; exact bsS; rfl; rfl) | (apply PRun.al; rfl) | (apply Lq.al; rfl; rfl; intro b) | (apply Open.cons; intro b) | apply Open.nil | (apply Lq.pass; rfl; rfl; rfl) | (apply PRun.pass; rfl; rfl) | (apply Lq.skip; rfl; rfl; rfl; exact bsB) | (apply PRun.skip; rfl; rfl; exact bsB) | (apply J.cond_t; rfl) | (apply J.cond_f; rfl) | apply J.exit | apply E.then_exit | apply E.in_exit | (apply E.in_other; rfl))
      refine J.drawW 9 [(none, none), (none, none), (none, none), (none, none), (none, none), (none, none), (none, none), (none, some 14), (some 14, some 14)] mixed (by kernel_rfl) ?_
      repeat (first | ((first | apply PRunW.s | (apply PRunW.run; rfl; rfl; exact bsB) | (apply Lq.s; rfl) | apply PRun.s | (apply Lq.run; rfl; rfl; rfl; exact bsB) | (apply PRun.run; rfl; rfl; exact bsB)); first | (apply op_iaddr hashT.toTy (x := s0); rfl; rfl; decide; rfl) | (apply op_load hashT; rfl) | (apply op_pairH; rfl; rfl; rfl; rfl; rfl; rfl) | (exact bsO)) | apply J.seq | apply E.next | apply J.lq | apply Lq.nil | apply PRun.nil | apply J.block | apply E.in_normal | apply J.skip | (apply Lq.store; rfl; rfl; exact bsP; exact bsS; rfl; rfl) | (apply PRun.al; rfl) | (apply Lq.al; rfl; rfl; intro b) | (apply Open.cons; intro b) | apply Open.nil | (apply Lq.pass; rfl; rfl; rfl) | (apply PRun.pass; rfl; rfl) | (apply Lq.skip; rfl; rfl; rfl; exact bsB) | (apply PRun.skip; rfl; rfl; exact bsB) | (apply J.cond_t; rfl) | (apply J.cond_f; rfl) | apply J.exit | apply E.then_exit | apply E.in_exit | (apply E.in_other; rfl) | apply PRunW.nil | (apply PRunW.al; rfl) | (apply PRunW.pass; rfl; rfl) | (apply PRunW.skip; rfl; rfl; exact bsB) | (apply Open.pv; intro b) | apply Open.av | (apply Open.rv; intro A c))
      (apply PRunW.st (φs' := pairT.cells ⟨[s0, s0], rfl⟩); rfl; rfl; exact Seg.val pairT _; (rw [pairT.len, pair_sz]); exact Nat.le_refl 64; exact splice_all (by rw [pairT.len, pair_sz]; rfl))
      repeat (first | ((first | apply PRunW.s | (apply PRunW.run; rfl; rfl; exact bsB) | (apply Lq.s; rfl) | apply PRun.s | (apply Lq.run; rfl; rfl; rfl; exact bsB) | (apply PRun.run; rfl; rfl; exact bsB)); first | (apply op_ksl_lo (T := hashT.toTy) (lo := 1); rfl; rfl; (show 1 ≤ tl.length + 1; omega)) | (apply op_len (xs := tl); rfl) | (exact bsO)) | apply J.seq | apply E.next | apply J.lq | apply Lq.nil | apply PRun.nil | apply J.block | apply E.in_normal | apply J.skip | (apply Lq.store; rfl; rfl; exact bsP; exact bsS; rfl; rfl) | (apply PRun.al; rfl) | (apply Lq.al; rfl; rfl; intro b) | (apply Open.cons; intro b) | apply Open.nil | (apply Lq.pass; rfl; rfl; rfl) | (apply PRun.pass; rfl; rfl) | (apply Lq.skip; rfl; rfl; rfl; exact bsB) | (apply PRun.skip; rfl; rfl; exact bsB) | (apply J.cond_t; rfl) | (apply J.cond_f; rfl) | apply J.exit | apply E.then_exit | apply E.in_exit | (apply E.in_other; rfl) | apply PRunW.nil | (apply PRunW.al; rfl) | (apply PRunW.pass; rfl; rfl) | (apply PRunW.skip; rfl; rfl; exact bsB) | (apply Open.pv; intro b) | apply Open.av | (apply Open.rv; intro A c))
      revert b
      intro bp
      refine J.loop (fun p : Nat × Nat × Nat × Hash × Hash × List Bool => p.1 ≤ tl.length ∧ p.2.1 < n ∧ p.2.2.1 < n ∧ p.2.2.2.2.2.length = p.1 ∧ W = p.2.2.2.2.2 ++ way p.2.1 p.2.2.1 ∧ foldC (s0, s0) (p.2.2.2.2.2.zip tl) = (p.2.2.2.1, p.2.2.2.2.1))
        (fun p => [(74, sl hashT.toTy tl), (75, is (.int .i64 (tl.length : Int))), (76, is (.int .i64 (p.1 : Int))), (14, is (.pointer (some ⟨bp, 0, none⟩))), (7, ptr (hashT.cells u)), (8, ptr (hashT.cells v)), (10, is (.int .i64 0)), (11, is (.pointer (some ⟨b1, 0, none⟩))), (12, is (.pointer (some ⟨b2, 0, none⟩))), (13, is (.func (.func 31) #[] [.pointer (some ⟨b1, 0, none⟩), .pointer (some ⟨b2, 0, none⟩)].toArray))])
        (fun p => [own bp 57 (pairT.cells ⟨[p.2.2.2.1, p.2.2.2.2.1], rfl⟩), own b1 3 [is (.int .i64 (p.2.1 : Int))], own b2 3 [is (.int .i64 (p.2.2.1 : Int))]]) (fun p => tl.length - p.1) (0, i, l, s0, s0, []) ⟨Nat.zero_le _, by dsimp only; omega, hln, rfl, hwl.symm, rfl⟩ (Sub.same (by repeat' (first | exact trivial | refine ⟨rfl, ?_⟩))) ?_
      clear hwl hand hi2 hil hln hw0
      rintro ⟨k, i, l, x, y, D⟩ ⟨hk, hin, hln, hDk, hD, hf⟩
      dsimp only at hk hin hln hDk hD hf ⊢
      have hand := and_one i
      have hWl : W.length = k + (way i l).length := by rw [hD, List.length_append, hDk]
      by_cases hlt : k < tl.length
      · obtain ⟨h, hx⟩ : ∃ h, tl[k]? = some h := ⟨_, List.getElem?_eq_getElem hlt⟩
        repeat (first | ((first | (apply Lq.s; rfl) | apply PRun.s | (apply Lq.run; rfl; rfl; rfl; exact bsB) | (apply PRun.run; rfl; rfl; exact bsB)); first | (apply op_iaddr hashT.toTy (x := h); rfl; rfl; exact Int.natCast_nonneg _; (rw [Int.toNat_natCast]; exact hx)) | (apply op_load hashT; rfl) | (exact bsO)) | apply J.seq | apply E.next | apply J.lq | apply Lq.nil | apply PRun.nil | apply J.block | apply E.in_normal | apply J.skip | (apply Lq.store; rfl; rfl; exact bsP; exact bsS; rfl; rfl) | (apply PRun.al; rfl) | (apply Lq.al; rfl; rfl; intro b) | (apply Open.cons; intro b) | apply Open.nil | (apply Lq.pass; rfl; rfl; rfl) | (apply PRun.pass; rfl; rfl) | (apply Lq.skip; rfl; rfl; rfl; exact bsB) | (apply PRun.skip; rfl; rfl; exact bsB) | (apply J.cond_t; rfl) | (apply J.cond_f; rfl) | apply J.exit | apply E.then_exit | apply E.in_exit | (apply E.in_other; rfl))
        (apply Lq.storeE (φs' := hashT.cells h); rfl; rfl; exact List.Perm.refl _; exact Seg.val _ _; exact hashT.len _; exact Nat.le_refl 32; exact splice_all (by rw [hashT.len]; rfl))
        revert b
        intro bh
        by_cases hl0 : l = 0
        · subst hl0
          rw [way_zero, List.length_nil] at hWl
          have : ok = false := by rw [hok, decide_eq_false (by omega), Bool.false_and]
          rw [if_neg (by rw [this]; decide)]
          repeat (first | ((first | (apply Lq.s; rfl) | apply PRun.s | (apply Lq.run; rfl; rfl; rfl; exact bsB) | (apply PRun.run; rfl; rfl; exact bsB)); first | (exact bsO)) | apply J.seq | apply E.next | apply J.lq | apply Lq.nil | apply PRun.nil | apply J.block | apply E.in_normal | apply J.skip | (apply Lq.store; rfl; rfl; exact bsP; exact bsS; rfl; rfl) | (apply PRun.al; rfl) | (apply Lq.al; rfl; rfl; intro b) | (apply Open.cons; intro b) | apply Open.nil | (apply Lq.pass; rfl; rfl; rfl) | (apply PRun.pass; rfl; rfl) | (apply Lq.skip; rfl; rfl; rfl; exact bsB) | (apply PRun.skip; rfl; rfl; exact bsB) | (apply J.cond_t; rfl) | (apply J.cond_f; rfl) | apply J.exit | apply E.then_exit | apply E.in_exit | (apply E.in_other; rfl))
          (refine J.ret ?_; (repeat (first | refine E.then_ret ?_ | refine E.in_ret ?_)))
          exact E.ret1 rfl rfl
        · rcases Nat.mod_two_eq_zero_or_one i with hi2 | hi2
          · by_cases hil : i = l
            · repeat (first | ((first | (apply Lq.s; rfl) | apply PRun.s | (apply Lq.run; rfl; rfl; rfl; exact bsB) | (apply PRun.run; rfl; rfl; exact bsB)); first | (apply op_oload hashT (x := h); rfl; exact bsM; exact List.take_of_length_le (Nat.le_of_eq (hashT.len _))) | (apply op_oload hashT (x := x); rfl; exact bsM; exact pair_at0 x y) | (apply op_oload hashT (x := y); rfl; exact bsM; exact pair_at1 x y) | (apply op_andn (m := i) (n := 1); rfl; rfl; omega; omega) | (exact bsO)) | apply J.seq | apply E.next | apply J.lq | apply Lq.nil | apply PRun.nil | apply J.block | apply E.in_normal | apply J.skip | (apply Lq.store; rfl; rfl; exact bsP; exact bsS; rfl; rfl) | (apply PRun.al; rfl) | (apply Lq.al; rfl; rfl; intro b) | (apply Open.cons; intro b) | apply Open.nil | (apply Lq.pass; rfl; rfl; rfl) | (apply PRun.pass; rfl; rfl) | (apply Lq.skip; rfl; rfl; rfl; exact bsB) | (apply PRun.skip; rfl; rfl; exact bsB) | (apply J.cond_t; rfl) | (apply J.cond_f; rfl) | apply J.exit | apply E.then_exit | apply E.in_exit | (apply E.in_other; rfl))
              refine J.drawW 9 [(none, none), (none, none), (none, none), (none, none), (none, none), (none, none), (none, none), (none, none), (none, none)] mixed (by kernel_rfl) ?_
              repeat (first | ((first | apply PRunW.s | (apply PRunW.run; rfl; rfl; exact bsB) | (apply Lq.s; rfl) | apply PRun.s | (apply Lq.run; rfl; rfl; rfl; exact bsB) | (apply PRun.run; rfl; rfl; exact bsB)); first | (apply op_oload hashT (x := h); rfl; exact bsM; exact List.take_of_length_le (Nat.le_of_eq (hashT.len _))) | (apply op_oload hashT (x := x); rfl; exact bsM; exact pair_at0 x y) | (apply op_oload hashT (x := y); rfl; exact bsM; exact pair_at1 x y) | (apply op_call (nodeH_fn h x); exact bsD) | (apply op_call (nodeH_fn h y); exact bsD) | (apply op_pairH; rfl; rfl; rfl; rfl; rfl; rfl) | (exact bsO)) | apply J.seq | apply E.next | apply J.lq | apply Lq.nil | apply PRun.nil | apply J.block | apply E.in_normal | apply J.skip | (apply Lq.store; rfl; rfl; exact bsP; exact bsS; rfl; rfl) | (apply PRun.al; rfl) | (apply Lq.al; rfl; rfl; intro b) | (apply Open.cons; intro b) | apply Open.nil | (apply Lq.pass; rfl; rfl; rfl) | (apply PRun.pass; rfl; rfl) | (apply Lq.skip; rfl; rfl; rfl; exact bsB) | (apply PRun.skip; rfl; rfl; exact bsB) | (apply J.cond_t; rfl) | (apply J.cond_f; rfl) | apply J.exit | apply E.then_exit | apply E.in_exit | (apply E.in_other; rfl) | apply PRunW.nil | (apply PRunW.al; rfl) | (apply PRunW.pass; rfl; rfl) | (apply PRunW.skip; rfl; rfl; exact bsB) | (apply Open.pv; intro b) | apply Open.av | (apply Open.rv; intro A c))
              (apply Lq.storeE (φs' := pairT.cells ⟨[nodeH h x, nodeH h y], rfl⟩); rfl; rfl; exact List.Perm.swap _ _ _; exact Seg.val pairT _; (rw [pairT.len, pair_sz]); (rw [pairT.len, pair_sz]; exact Nat.le_refl 64); exact splice_all (by rw [pairT.len, pairT.len]))
              repeat (first | ((first | (apply Lq.s; rfl) | apply PRun.s | (apply Lq.run; rfl; rfl; rfl; exact bsB) | (apply PRun.run; rfl; rfl; exact bsB)); first | (exact bsO)) | apply J.seq | apply E.next | apply J.lq | apply Lq.nil | apply PRun.nil | apply J.block | apply E.in_normal | apply J.skip | (apply Lq.store; rfl; rfl; exact bsP; exact bsS; rfl; rfl) | (apply PRun.al; rfl) | (apply Lq.al; rfl; rfl; intro b) | (apply Open.cons; intro b) | apply Open.nil | (apply Lq.pass; rfl; rfl; rfl) | (apply PRun.pass; rfl; rfl) | (apply Lq.skip; rfl; rfl; rfl; exact bsB) | (apply PRun.skip; rfl; rfl; exact bsB) | (apply J.cond_t; rfl) | (apply J.cond_f; rfl) | apply J.exit | apply E.then_exit | apply E.in_exit | (apply E.in_other; rfl))
              refine J.loop (fun p : Nat × Nat => p.1 < n ∧ p.2 < n ∧ p.1 ≠ 0 ∧ p.2 ≠ 0 ∧ (p.1 % 2 = 1 ∨ p.1 = p.2) ∧ way p.1 p.2 = way i l)
                (fun p => [(74, sl hashT.toTy tl), (75, is (.int .i64 (tl.length : Int))), (76, is (.int .i64 (k : Int))), (14, is (.pointer (some ⟨bp, 0, none⟩))), (7, ptr (hashT.cells u)), (8, ptr (hashT.cells v)), (10, is (.int .i64 0)), (11, is (.pointer (some ⟨b1, 0, none⟩))), (12, is (.pointer (some ⟨b2, 0, none⟩))), (13, is (.func (.func 31) #[] [.pointer (some ⟨b1, 0, none⟩), .pointer (some ⟨b2, 0, none⟩)].toArray))])
                (fun p => [own bp 57 (pairT.cells ⟨[nodeH h x, nodeH h y], rfl⟩), own b1 3 [is (.int .i64 (p.1 : Int))], own b2 3 [is (.int .i64 (p.2 : Int))]]) (fun p => p.1) (i, l) ⟨hin, hln, by dsimp only; omega, hl0, by dsimp only; omega, rfl⟩ ⟨(by repeat' (first | exact trivial | refine ⟨rfl, ?_⟩)), [_], List.Perm.cons _ (List.perm_append_comm (l₁ := [_]) (l₂ := [_, _]))⟩ ?_
              rintro ⟨i', l'⟩ ⟨hi1, hl1, hi0, hl2, hor, hway⟩
              dsimp only at hi1 hl1 hi0 hl2 hor hway ⊢
              have hand' := and_one i'
              rcases Nat.mod_two_eq_zero_or_one i' with hpar | hpar
              · have heq : i' = l' := by omega
                rw [way_eq hpar heq hl2] at hway
                repeat (first | ((first | (apply Lq.s; rfl) | apply PRun.s | (apply Lq.run; rfl; rfl; rfl; exact bsB) | (apply PRun.run; rfl; rfl; exact bsB)); first | (apply op_andn (m := i') (n := 1); rfl; rfl; omega; omega) | (exact bsO)) | apply J.seq | apply E.next | apply J.lq | apply Lq.nil | apply PRun.nil | apply J.block | apply E.in_normal | apply J.skip | (apply Lq.store; rfl; rfl; exact bsP; exact bsS; rfl; rfl) | (apply PRun.al; rfl) | (apply Lq.al; rfl; rfl; intro b) | (apply Open.cons; intro b) | apply Open.nil | (apply Lq.pass; rfl; rfl; rfl) | (apply PRun.pass; rfl; rfl) | (apply Lq.skip; rfl; rfl; rfl; exact bsB) | (apply PRun.skip; rfl; rfl; exact bsB) | (apply J.cond_t; rfl) | (apply J.cond_f; rfl) | apply J.exit | apply E.then_exit | apply E.in_exit | (apply E.in_other; rfl))
                refine Lq.callVR (up_fnR b1 b2 3 3 i' l' _ _ rfl rfl) (ξs := []) (fun x hx => by injection hx with hx; subst hx; exact blt rfl) rfl trivial (fun _ => upH) (List.perm_append_comm (l₁ := [_]) (l₂ := [_, _])) ?_
                rintro _ _ ⟨rfl, rfl⟩
                repeat (first | ((first | (apply Lq.s; rfl) | apply PRun.s | (apply Lq.run; rfl; rfl; rfl; exact bsB) | (apply PRun.run; rfl; rfl; exact bsB)); first | (exact bsO)) | apply J.seq | apply E.next | apply J.lq | apply Lq.nil | apply PRun.nil | apply J.block | apply E.in_normal | apply J.skip | (apply Lq.store; rfl; rfl; exact bsP; exact bsS; rfl; rfl) | (apply PRun.al; rfl) | (apply Lq.al; rfl; rfl; intro b) | (apply Open.cons; intro b) | apply Open.nil | (apply Lq.pass; rfl; rfl; rfl) | (apply PRun.pass; rfl; rfl) | (apply Lq.skip; rfl; rfl; rfl; exact bsB) | (apply PRun.skip; rfl; rfl; exact bsB) | (apply J.cond_t; rfl) | (apply J.cond_f; rfl) | apply J.exit | apply E.then_exit | apply E.in_exit | (apply E.in_other; rfl))
                exact E.again (i' / 2, l' / 2) (by dsimp only; omega) ⟨by dsimp only; omega, by dsimp only; omega, by dsimp only; omega, by dsimp only; omega, by dsimp only; omega, hway⟩ ⟨(by repeat' (first | exact trivial | refine ⟨rfl, ?_⟩)), [], by rw [List.append_nil]; exact List.perm_append_comm (l₁ := [_, _]) (l₂ := [_])⟩
              · rw [way_odd hpar hl2] at hway
                repeat (first | ((first | (apply Lq.s; rfl) | apply PRun.s | (apply Lq.run; rfl; rfl; rfl; exact bsB) | (apply PRun.run; rfl; rfl; exact bsB)); first | (apply op_andn (m := i') (n := 1); rfl; rfl; omega; omega) | (exact bsO)) | apply J.seq | apply E.next | apply J.lq | apply Lq.nil | apply PRun.nil | apply J.block | apply E.in_normal | apply J.skip | (apply Lq.store; rfl; rfl; exact bsP; exact bsS; rfl; rfl) | (apply PRun.al; rfl) | (apply Lq.al; rfl; rfl; intro b) | (apply Open.cons; intro b) | apply Open.nil | (apply Lq.pass; rfl; rfl; rfl) | (apply PRun.pass; rfl; rfl) | (apply Lq.skip; rfl; rfl; rfl; exact bsB) | (apply PRun.skip; rfl; rfl; exact bsB) | (apply J.cond_t; rfl) | (apply J.cond_f; rfl) | apply J.exit | apply E.then_exit | apply E.in_exit | (apply E.in_other; rfl))
                refine Lq.callVR (up_fnR b1 b2 3 3 i' l' _ _ rfl rfl) (ξs := []) (fun x hx => by injection hx with hx; subst hx; exact blt rfl) rfl trivial (fun _ => upH) (List.perm_append_comm (l₁ := [_]) (l₂ := [_, _])) ?_
                rintro _ _ ⟨rfl, rfl⟩
                repeat (first | ((first | (apply Lq.s; rfl) | apply PRun.s | (apply Lq.run; rfl; rfl; rfl; exact bsB) | (apply PRun.run; rfl; rfl; exact bsB)); first | (exact bsO)) | apply J.seq | apply E.next | apply J.lq | apply Lq.nil | apply PRun.nil | apply J.block | apply E.in_normal | apply J.skip | (apply Lq.store; rfl; rfl; exact bsP; exact bsS; rfl; rfl) | (apply PRun.al; rfl) | (apply Lq.al; rfl; rfl; intro b) | (apply Open.cons; intro b) | apply Open.nil | (apply Lq.pass; rfl; rfl; rfl) | (apply PRun.pass; rfl; rfl) | (apply Lq.skip; rfl; rfl; rfl; exact bsB) | (apply PRun.skip; rfl; rfl; exact bsB) | (apply J.cond_t; rfl) | (apply J.cond_f; rfl) | apply J.exit | apply E.then_exit | apply E.in_exit | (apply E.in_other; rfl))
                exact E.again (k + 1, i' / 2, l' / 2, nodeH h x, nodeH h y, D ++ [true]) (by dsimp only; omega) ⟨by dsimp only; omega, by dsimp only; omega, by dsimp only; omega, by dsimp only; rw [List.length_append, hDk]; rfl, by dsimp only; rw [hD, ← hway, List.append_assoc]; rfl, by dsimp only; rw [zip_snoc hDk hx, foldC_one, hf]; rfl⟩ ⟨(by repeat' (first | exact trivial | refine ⟨rfl, ?_⟩)), [], by rw [List.append_nil]; exact List.perm_append_comm (l₁ := [_, _]) (l₂ := [_])⟩
            · rw [way_lt hi2 hil hl0] at hD
              repeat (first | ((first | (apply Lq.s; rfl) | apply PRun.s | (apply Lq.run; rfl; rfl; rfl; exact bsB) | (apply PRun.run; rfl; rfl; exact bsB)); first | (apply op_andn (m := i) (n := 1); rfl; rfl; omega; omega) | (apply op_oload hashT (x := h); rfl; exact bsM; exact List.take_of_length_le (Nat.le_of_eq (hashT.len _))) | (apply op_oload hashT (x := x); rfl; exact bsM; exact pair_at0 x y) | (apply op_oload hashT (x := y); rfl; exact bsM; exact pair_at1 x y) | (apply op_call (nodeH_fn y h); exact bsD) | (exact bsO)) | apply J.seq | apply E.next | apply J.lq | apply Lq.nil | apply PRun.nil | apply J.block | apply E.in_normal | apply J.skip | (apply Lq.store; rfl; rfl; exact bsP; exact bsS; rfl; rfl) | (apply PRun.al; rfl) | (apply Lq.al; rfl; rfl; intro b) | (apply Open.cons; intro b) | apply Open.nil | (apply Lq.pass; rfl; rfl; rfl) | (apply PRun.pass; rfl; rfl) | (apply Lq.skip; rfl; rfl; rfl; exact bsB) | (apply PRun.skip; rfl; rfl; exact bsB) | (apply J.cond_t; rfl) | (apply J.cond_f; rfl) | apply J.exit | apply E.then_exit | apply E.in_exit | (apply E.in_other; rfl))
              (apply Lq.storeE (φs' := pairT.cells ⟨[x, nodeH y h], rfl⟩); rfl; rfl; exact List.Perm.swap _ _ _; exact Seg.val hashT _; exact hashT.len _; (rw [pairT.len, pair_sz]; decide); exact pair_set1 x y _)
              repeat (first | ((first | (apply Lq.s; rfl) | apply PRun.s | (apply Lq.run; rfl; rfl; rfl; exact bsB) | (apply PRun.run; rfl; rfl; exact bsB)); first | (exact bsO)) | apply J.seq | apply E.next | apply J.lq | apply Lq.nil | apply PRun.nil | apply J.block | apply E.in_normal | apply J.skip | (apply Lq.store; rfl; rfl; exact bsP; exact bsS; rfl; rfl) | (apply PRun.al; rfl) | (apply Lq.al; rfl; rfl; intro b) | (apply Open.cons; intro b) | apply Open.nil | (apply Lq.pass; rfl; rfl; rfl) | (apply PRun.pass; rfl; rfl) | (apply Lq.skip; rfl; rfl; rfl; exact bsB) | (apply PRun.skip; rfl; rfl; exact bsB) | (apply J.cond_t; rfl) | (apply J.cond_f; rfl) | apply J.exit | apply E.then_exit | apply E.in_exit | (apply E.in_other; rfl))
              refine Lq.callVR (up_fnR b1 b2 3 3 i l _ _ rfl rfl) (ξs := []) (fun x hx => by injection hx with hx; subst hx; exact blt rfl) rfl trivial (fun _ => upH) (List.perm_append_comm (l₁ := [_, _]) (l₂ := [_, _])) ?_
              rintro _ _ ⟨rfl, rfl⟩
              repeat (first | ((first | (apply Lq.s; rfl) | apply PRun.s | (apply Lq.run; rfl; rfl; rfl; exact bsB) | (apply PRun.run; rfl; rfl; exact bsB)); first | (exact bsO)) | apply J.seq | apply E.next | apply J.lq | apply Lq.nil | apply PRun.nil | apply J.block | apply E.in_normal | apply J.skip | (apply Lq.store; rfl; rfl; exact bsP; exact bsS; rfl; rfl) | (apply PRun.al; rfl) | (apply Lq.al; rfl; rfl; intro b) | (apply Open.cons; intro b) | apply Open.nil | (apply Lq.pass; rfl; rfl; rfl) | (apply PRun.pass; rfl; rfl) | (apply Lq.skip; rfl; rfl; rfl; exact bsB) | (apply PRun.skip; rfl; rfl; exact bsB) | (apply J.cond_t; rfl) | (apply J.cond_f; rfl) | apply J.exit | apply E.then_exit | apply E.in_exit | (apply E.in_other; rfl))
              exact E.again (k + 1, i / 2, l / 2, x, nodeH y h, D ++ [false]) (by dsimp only; omega) ⟨by dsimp only; omega, by dsimp only; omega, by dsimp only; omega, by dsimp only; rw [List.length_append, hDk]; rfl, by dsimp only; rw [hD, List.append_assoc]; rfl, by dsimp only; rw [zip_snoc hDk hx, foldC_one, hf]; rfl⟩ ⟨(by repeat' (first | exact trivial | refine ⟨rfl, ?_⟩)), [_], List.Perm.append_right [_] (List.perm_append_comm (l₁ := [_, _]) (l₂ := [_]))⟩
          · repeat (first | ((first | (apply Lq.s; rfl) | apply PRun.s | (apply Lq.run; rfl; rfl; rfl; exact bsB) | (apply PRun.run; rfl; rfl; exact bsB)); first | (apply op_oload hashT (x := h); rfl; exact bsM; exact List.take_of_length_le (Nat.le_of_eq (hashT.len _))) | (apply op_oload hashT (x := x); rfl; exact bsM; exact pair_at0 x y) | (apply op_oload hashT (x := y); rfl; exact bsM; exact pair_at1 x y) | (apply op_andn (m := i) (n := 1); rfl; rfl; omega; omega) | (exact bsO)) | apply J.seq | apply E.next | apply J.lq | apply Lq.nil | apply PRun.nil | apply J.block | apply E.in_normal | apply J.skip | (apply Lq.store; rfl; rfl; exact bsP; exact bsS; rfl; rfl) | (apply PRun.al; rfl) | (apply Lq.al; rfl; rfl; intro b) | (apply Open.cons; intro b) | apply Open.nil | (apply Lq.pass; rfl; rfl; rfl) | (apply PRun.pass; rfl; rfl) | (apply Lq.skip; rfl; rfl; rfl; exact bsB) | (apply PRun.skip; rfl; rfl; exact bsB) | (apply J.cond_t; rfl) | (apply J.cond_f; rfl) | apply J.exit | apply E.then_exit | apply E.in_exit | (apply E.in_other; rfl))
            refine J.drawW 9 [(none, none), (none, none), (none, none), (none, none), (none, none), (none, none), (none, none), (none, none), (none, none)] mixed (by kernel_rfl) ?_
            repeat (first | ((first | apply PRunW.s | (apply PRunW.run; rfl; rfl; exact bsB) | (apply Lq.s; rfl) | apply PRun.s | (apply Lq.run; rfl; rfl; rfl; exact bsB) | (apply PRun.run; rfl; rfl; exact bsB)); first | (apply op_oload hashT (x := h); rfl; exact bsM; exact List.take_of_length_le (Nat.le_of_eq (hashT.len _))) | (apply op_oload hashT (x := x); rfl; exact bsM; exact pair_at0 x y) | (apply op_oload hashT (x := y); rfl; exact bsM; exact pair_at1 x y) | (apply op_call (nodeH_fn h x); exact bsD) | (apply op_call (nodeH_fn h y); exact bsD) | (apply op_pairH; rfl; rfl; rfl; rfl; rfl; rfl) | (exact bsO)) | apply J.seq | apply E.next | apply J.lq | apply Lq.nil | apply PRun.nil | apply J.block | apply E.in_normal | apply J.skip | (apply Lq.store; rfl; rfl; exact bsP; exact bsS; rfl; rfl) | (apply PRun.al; rfl) | (apply Lq.al; rfl; rfl; intro b) | (apply Open.cons; intro b) | apply Open.nil | (apply Lq.pass; rfl; rfl; rfl) | (apply PRun.pass; rfl; rfl) | (apply Lq.skip; rfl; rfl; rfl; exact bsB) | (apply PRun.skip; rfl; rfl; exact bsB) | (apply J.cond_t; rfl) | (apply J.cond_f; rfl) | apply J.exit | apply E.then_exit | apply E.in_exit | (apply E.in_other; rfl) | apply PRunW.nil | (apply PRunW.al; rfl) | (apply PRunW.pass; rfl; rfl) | (apply PRunW.skip; rfl; rfl; exact bsB) | (apply Open.pv; intro b) | apply Open.av | (apply Open.rv; intro A c))
            (apply Lq.storeE (φs' := pairT.cells ⟨[nodeH h x, nodeH h y], rfl⟩); rfl; rfl; exact List.Perm.swap _ _ _; exact Seg.val pairT _; (rw [pairT.len, pair_sz]); (rw [pairT.len, pair_sz]; exact Nat.le_refl 64); exact splice_all (by rw [pairT.len, pairT.len]))
            repeat (first | ((first | (apply Lq.s; rfl) | apply PRun.s | (apply Lq.run; rfl; rfl; rfl; exact bsB) | (apply PRun.run; rfl; rfl; exact bsB)); first | (exact bsO)) | apply J.seq | apply E.next | apply J.lq | apply Lq.nil | apply PRun.nil | apply J.block | apply E.in_normal | apply J.skip | (apply Lq.store; rfl; rfl; exact bsP; exact bsS; rfl; rfl) | (apply PRun.al; rfl) | (apply Lq.al; rfl; rfl; intro b) | (apply Open.cons; intro b) | apply Open.nil | (apply Lq.pass; rfl; rfl; rfl) | (apply PRun.pass; rfl; rfl) | (apply Lq.skip; rfl; rfl; rfl; exact bsB) | (apply PRun.skip; rfl; rfl; exact bsB) | (apply J.cond_t; rfl) | (apply J.cond_f; rfl) | apply J.exit | apply E.then_exit | apply E.in_exit | (apply E.in_other; rfl))
            refine J.loop (fun p : Nat × Nat => p.1 < n ∧ p.2 < n ∧ p.1 ≠ 0 ∧ p.2 ≠ 0 ∧ (p.1 % 2 = 1 ∨ p.1 = p.2) ∧ way p.1 p.2 = way i l)
              (fun p => [(74, sl hashT.toTy tl), (75, is (.int .i64 (tl.length : Int))), (76, is (.int .i64 (k : Int))), (14, is (.pointer (some ⟨bp, 0, none⟩))), (7, ptr (hashT.cells u)), (8, ptr (hashT.cells v)), (10, is (.int .i64 0)), (11, is (.pointer (some ⟨b1, 0, none⟩))), (12, is (.pointer (some ⟨b2, 0, none⟩))), (13, is (.func (.func 31) #[] [.pointer (some ⟨b1, 0, none⟩), .pointer (some ⟨b2, 0, none⟩)].toArray))])
              (fun p => [own bp 57 (pairT.cells ⟨[nodeH h x, nodeH h y], rfl⟩), own b1 3 [is (.int .i64 (p.1 : Int))], own b2 3 [is (.int .i64 (p.2 : Int))]]) (fun p => p.1) (i, l) ⟨hin, hln, by dsimp only; omega, hl0, by dsimp only; omega, rfl⟩ ⟨(by repeat' (first | exact trivial | refine ⟨rfl, ?_⟩)), [_], List.Perm.cons _ (List.perm_append_comm (l₁ := [_]) (l₂ := [_, _]))⟩ ?_
            rintro ⟨i', l'⟩ ⟨hi1, hl1, hi0, hl2, hor, hway⟩
            dsimp only at hi1 hl1 hi0 hl2 hor hway ⊢
            have hand' := and_one i'
            rcases Nat.mod_two_eq_zero_or_one i' with hpar | hpar
            · have heq : i' = l' := by omega
              rw [way_eq hpar heq hl2] at hway
              repeat (first | ((first | (apply Lq.s; rfl) | apply PRun.s | (apply Lq.run; rfl; rfl; rfl; exact bsB) | (apply PRun.run; rfl; rfl; exact bsB)); first | (apply op_andn (m := i') (n := 1); rfl; rfl; omega; omega) | (exact bsO)) | apply J.seq | apply E.next | apply J.lq | apply Lq.nil | apply PRun.nil | apply J.block | apply E.in_normal | apply J.skip | (apply Lq.store; rfl; rfl; exact bsP; exact bsS; rfl; rfl) | (apply PRun.al; rfl) | (apply Lq.al; rfl; rfl; intro b) | (apply Open.cons; intro b) | apply Open.nil | (apply Lq.pass; rfl; rfl; rfl) | (apply PRun.pass; rfl; rfl) | (apply Lq.skip; rfl; rfl; rfl; exact bsB) | (apply PRun.skip; rfl; rfl; exact bsB) | (apply J.cond_t; rfl) | (apply J.cond_f; rfl) | apply J.exit | apply E.then_exit | apply E.in_exit | (apply E.in_other; rfl))
              refine Lq.callVR (up_fnR b1 b2 3 3 i' l' _ _ rfl rfl) (ξs := []) (fun x hx => by injection hx with hx; subst hx; exact blt rfl) rfl trivial (fun _ => upH) (List.perm_append_comm (l₁ := [_]) (l₂ := [_, _])) ?_
              rintro _ _ ⟨rfl, rfl⟩
              repeat (first | ((first | (apply Lq.s; rfl) | apply PRun.s | (apply Lq.run; rfl; rfl; rfl; exact bsB) | (apply PRun.run; rfl; rfl; exact bsB)); first | (exact bsO)) | apply J.seq | apply E.next | apply J.lq | apply Lq.nil | apply PRun.nil | apply J.block | apply E.in_normal | apply J.skip | (apply Lq.store; rfl; rfl; exact bsP; exact bsS; rfl; rfl) | (apply PRun.al; rfl) | (apply Lq.al; rfl; rfl; intro b) | (apply Open.cons; intro b) | apply Open.nil | (apply Lq.pass; rfl; rfl; rfl) | (apply PRun.pass; rfl; rfl) | (apply Lq.skip; rfl; rfl; rfl; exact bsB) | (apply PRun.skip; rfl; rfl; exact bsB) | (apply J.cond_t; rfl) | (apply J.cond_f; rfl) | apply J.exit | apply E.then_exit | apply E.in_exit | (apply E.in_other; rfl))
              exact E.again (i' / 2, l' / 2) (by dsimp only; omega) ⟨by dsimp only; omega, by dsimp only; omega, by dsimp only; omega, by dsimp only; omega, by dsimp only; omega, hway⟩ ⟨(by repeat' (first | exact trivial | refine ⟨rfl, ?_⟩)), [], by rw [List.append_nil]; exact List.perm_append_comm (l₁ := [_, _]) (l₂ := [_])⟩
            · rw [way_odd hpar hl2] at hway
              repeat (first | ((first | (apply Lq.s; rfl) | apply PRun.s | (apply Lq.run; rfl; rfl; rfl; exact bsB) | (apply PRun.run; rfl; rfl; exact bsB)); first | (apply op_andn (m := i') (n := 1); rfl; rfl; omega; omega) | (exact bsO)) | apply J.seq | apply E.next | apply J.lq | apply Lq.nil | apply PRun.nil | apply J.block | apply E.in_normal | apply J.skip | (apply Lq.store; rfl; rfl; exact bsP; exact bsS; rfl; rfl) | (apply PRun.al; rfl) | (apply Lq.al; rfl; rfl; intro b) | (apply Open.cons; intro b) | apply Open.nil | (apply Lq.pass; rfl; rfl; rfl) | (apply PRun.pass; rfl; rfl) | (apply Lq.skip; rfl; rfl; rfl; exact bsB) | (apply PRun.skip; rfl; rfl; exact bsB) | (apply J.cond_t; rfl) | (apply J.cond_f; rfl) | apply J.exit | apply E.then_exit | apply E.in_exit | (apply E.in_other; rfl))
              refine Lq.callVR (up_fnR b1 b2 3 3 i' l' _ _ rfl rfl) (ξs := []) (fun x hx => by injection hx with hx; subst hx; exact blt rfl) rfl trivial (fun _ => upH) (List.perm_append_comm (l₁ := [_]) (l₂ := [_, _])) ?_
              rintro _ _ ⟨rfl, rfl⟩
              repeat (first | ((first | (apply Lq.s; rfl) | apply PRun.s | (apply Lq.run; rfl; rfl; rfl; exact bsB) | (apply PRun.run; rfl; rfl; exact bsB)); first | (exact bsO)) | apply J.seq | apply E.next | apply J.lq | apply Lq.nil | apply PRun.nil | apply J.block | apply E.in_normal | apply J.skip | (apply Lq.store; rfl; rfl; exact bsP; exact bsS; rfl; rfl) | (apply PRun.al; rfl) | (apply Lq.al; rfl; rfl; intro b) | (apply Open.cons; intro b) | apply Open.nil | (apply Lq.pass; rfl; rfl; rfl) | (apply PRun.pass; rfl; rfl) | (apply Lq.skip; rfl; rfl; rfl; exact bsB) | (apply PRun.skip; rfl; rfl; exact bsB) | (apply J.cond_t; rfl) | (apply J.cond_f; rfl) | apply J.exit | apply E.then_exit | apply E.in_exit | (apply E.in_other; rfl))
              exact E.again (k + 1, i' / 2, l' / 2, nodeH h x, nodeH h y, D ++ [true]) (by dsimp only; omega) ⟨by dsimp only; omega, by dsimp only; omega, by dsimp only; omega, by dsimp only; rw [List.length_append, hDk]; rfl, by dsimp only; rw [hD, ← hway, List.append_assoc]; rfl, by dsimp only; rw [zip_snoc hDk hx, foldC_one, hf]; rfl⟩ ⟨(by repeat' (first | exact trivial | refine ⟨rfl, ?_⟩)), [], by rw [List.append_nil]; exact List.perm_append_comm (l₁ := [_, _]) (l₂ := [_])⟩
      · obtain rfl : k = tl.length := by omega
        by_cases hl0 : l = 0
        · subst hl0
          rw [way_zero, List.append_nil] at hD
          subst hD
          by_cases hxy : (x, y) = (u, v)
          · obtain ⟨rfl, rfl⟩ := Prod.mk.inj hxy
            have : ok = true := by rw [hok, hf, decide_eq_true hDk.symm]; simp
            rw [if_pos this]
            repeat (first | ((first | (apply Lq.s; rfl) | apply PRun.s | (apply Lq.run; rfl; rfl; rfl; exact bsB) | (apply PRun.run; rfl; rfl; exact bsB)); first | (apply op_oloadP (x := ⟨[x, y], rfl⟩); rfl; exact bsM; rfl) | (apply op_load hashT; rfl) | (apply op_pairH; rfl; rfl; rfl; rfl; rfl; rfl) | (apply op_neA_f (T := pairT) (m := 3) eqd_pair pair_ag rfl; rfl; rfl; rfl) | (exact bsO)) | apply J.seq | apply E.next | apply J.lq | apply Lq.nil | apply PRun.nil | apply J.block | apply E.in_normal | apply J.skip | (apply Lq.store; rfl; rfl; exact bsP; exact bsS; rfl; rfl) | (apply PRun.al; rfl) | (apply Lq.al; rfl; rfl; intro b) | (apply Open.cons; intro b) | apply Open.nil | (apply Lq.pass; rfl; rfl; rfl) | (apply PRun.pass; rfl; rfl) | (apply Lq.skip; rfl; rfl; rfl; exact bsB) | (apply PRun.skip; rfl; rfl; exact bsB) | (apply J.cond_t; rfl) | (apply J.cond_f; rfl) | apply J.exit | apply E.then_exit | apply E.in_exit | (apply E.in_other; rfl))
            (refine J.ret ?_; (repeat (first | refine E.then_ret ?_ | refine E.in_ret ?_)))
            exact E.ret1 rfl rfl
          · have : ok = false := by rw [hok, hf, decide_eq_false hxy, Bool.and_false]
            rw [if_neg (by rw [this]; decide)]
            repeat (first | ((first | (apply Lq.s; rfl) | apply PRun.s | (apply Lq.run; rfl; rfl; rfl; exact bsB) | (apply PRun.run; rfl; rfl; exact bsB)); first | (apply op_oloadP (x := ⟨[x, y], rfl⟩); rfl; exact bsM; rfl) | (apply op_load hashT; rfl) | (apply op_pairH; rfl; rfl; rfl; rfl; rfl; rfl) | (apply op_neA_t (T := pairT) (m := 3) eqd_pair pair_ag rfl; rfl; rfl; exact fun h => hxy (Prod.ext (pair_eq.1 h).1 (pair_eq.1 h).2)) | (exact bsO)) | apply J.seq | apply E.next | apply J.lq | apply Lq.nil | apply PRun.nil | apply J.block | apply E.in_normal | apply J.skip | (apply Lq.store; rfl; rfl; exact bsP; exact bsS; rfl; rfl) | (apply PRun.al; rfl) | (apply Lq.al; rfl; rfl; intro b) | (apply Open.cons; intro b) | apply Open.nil | (apply Lq.pass; rfl; rfl; rfl) | (apply PRun.pass; rfl; rfl) | (apply Lq.skip; rfl; rfl; rfl; exact bsB) | (apply PRun.skip; rfl; rfl; exact bsB) | (apply J.cond_t; rfl) | (apply J.cond_f; rfl) | apply J.exit | apply E.then_exit | apply E.in_exit | (apply E.in_other; rfl))
            (refine J.ret ?_; (repeat (first | refine E.then_ret ?_ | refine E.in_ret ?_)))
            exact E.ret1 rfl rfl
        · have hw := way_pos l i l (Nat.le_refl _) hl0
          have : ok = false := by rw [hok, decide_eq_false (by omega), Bool.false_and]
          rw [if_neg (by rw [this]; decide)]
          repeat (first | ((first | (apply Lq.s; rfl) | apply PRun.s | (apply Lq.run; rfl; rfl; rfl; exact bsB) | (apply PRun.run; rfl; rfl; exact bsB)); first | (exact bsO)) | apply J.seq | apply E.next | apply J.lq | apply Lq.nil | apply PRun.nil | apply J.block | apply E.in_normal | apply J.skip | (apply Lq.store; rfl; rfl; exact bsP; exact bsS; rfl; rfl) | (apply PRun.al; rfl) | (apply Lq.al; rfl; rfl; intro b) | (apply Open.cons; intro b) | apply Open.nil | (apply Lq.pass; rfl; rfl; rfl) | (apply PRun.pass; rfl; rfl) | (apply Lq.skip; rfl; rfl; rfl; exact bsB) | (apply PRun.skip; rfl; rfl; exact bsB) | (apply J.cond_t; rfl) | (apply J.cond_f; rfl) | apply J.exit | apply E.then_exit | apply E.in_exit | (apply E.in_other; rfl))
          (refine J.ret ?_; (repeat (first | refine E.then_ret ?_ | refine E.in_ret ?_)))
          exact E.ret1 rfl rfl
    · rw [wl_odd hi2] at hwl
      repeat (first | ((first | (apply Lq.s; rfl) | apply PRun.s | (apply Lq.run; rfl; rfl; rfl; exact bsB) | (apply PRun.run; rfl; rfl; exact bsB)); first | (apply op_andn (m := i) (n := 1); rfl; rfl; omega; omega) | (exact bsO)) | apply J.seq | apply E.next | apply J.lq | apply Lq.nil | apply PRun.nil | apply J.block | apply E.in_normal | apply J.skip | (apply Lq.store; rfl; rfl; exact bsP; exact bsS; rfl; rfl) | (apply PRun.al; rfl) | (apply Lq.al; rfl; rfl; intro b) | (apply Open.cons; intro b) | apply Open.nil | (apply Lq.pass; rfl; rfl; rfl) | (apply PRun.pass; rfl; rfl) | (apply Lq.skip; rfl; rfl; rfl; exact bsB) | (apply PRun.skip; rfl; rfl; exact bsB) | (apply J.cond_t; rfl) | (apply J.cond_f; rfl) | apply J.exit | apply E.then_exit | apply E.in_exit | (apply E.in_other; rfl))
      refine Lq.callVR (up_fnR b1 b2 3 3 i l _ _ rfl rfl) (ξs := []) (fun x hx => by injection hx with hx; subst hx; exact blt rfl) rfl trivial (fun _ => upH) (List.Perm.refl _) ?_
      rintro _ _ ⟨rfl, rfl⟩
      repeat (first | ((first | (apply Lq.s; rfl) | apply PRun.s | (apply Lq.run; rfl; rfl; rfl; exact bsB) | (apply PRun.run; rfl; rfl; exact bsB)); first | (exact bsO)) | apply J.seq | apply E.next | apply J.lq | apply Lq.nil | apply PRun.nil | apply J.block | apply E.in_normal | apply J.skip | (apply Lq.store; rfl; rfl; exact bsP; exact bsS; rfl; rfl) | (apply PRun.al; rfl) | (apply Lq.al; rfl; rfl; intro b) | (apply Open.cons; intro b) | apply Open.nil | (apply Lq.pass; rfl; rfl; rfl) | (apply PRun.pass; rfl; rfl) | (apply Lq.skip; rfl; rfl; rfl; exact bsB) | (apply PRun.skip; rfl; rfl; exact bsB) | (apply J.cond_t; rfl) | (apply J.cond_f; rfl) | apply J.exit | apply E.then_exit | apply E.in_exit | (apply E.in_other; rfl))
      exact E.again (i / 2, l / 2) (by dsimp only; omega) ⟨by dsimp only; omega, by dsimp only; omega, hwl⟩ (Sub.same (by repeat' (first | exact trivial | refine ⟨rfl, ?_⟩)))
end Go.Proofs.YtkhgebacgkgpcaaDoor.L
/-
  The document's proofs of consistency, walked.
-/
namespace Go.Proofs.YtkhgebacgkgpcaaDoor.L
open Go
set_option linter.unusedSectionVars false
variable [Globs] [Has_sha_table] [Has_sha_begin]
theorem cpart_len : ∀ (n : Nat) (l : List Hash) (m : Nat) (yes : Bool), l.length = n → 1 ≤ m → m ≤ n → (cpart l m yes).length ≤ n := by
  intro n
  induction n using Nat.strongRecOn with
  | _ n ih =>
    intro l m yes hn h1 hm
    by_cases he : m = l.length
    · rw [cpart_all h1 he]
      split
      · exact Nat.zero_le _
      · show 1 ≤ n; omega
    · obtain ⟨s1, s2, s3⟩ := split_lt (n := l.length) (by omega)
      have l1 : (l.take (split l.length)).length = split l.length := by rw [List.length_take]; omega
      have l2 : (l.drop (split l.length)).length = l.length - split l.length := List.length_drop
      by_cases hk : m ≤ split l.length
      · rw [cpart_left h1 (by omega) hk yes, List.length_append]
        have := ih (split l.length) (by omega) _ m yes l1 h1 hk
        show _ + 1 ≤ n
        omega
      · rw [cpart_right (by omega) (by omega) yes, List.length_append]
        have := ih (l.length - split l.length) (by omega) _ (m - split l.length) false l2 (by omega) (by omega)
        show _ + 1 ≤ n
        omega
variable [Has_ref02_k]
set_option linter.unusedVariables false
set_option linter.unusedSimpArgs false
attribute [local irreducible] J Lq E OpP PRun is any agg tup ptr sl PRunW OpE
attribute [local irreducible] up2 mroot nodeH leafH emptyH shaH ownAt row someL leafOf splitZ split rv ways pairT cpart leadsR
set_option maxHeartbeats 1000000 in
theorem part_fnR : ∀ (n : Nat) (l : List Hash) (m : Nat) (yes : Bool), l.length = n → n ≤ 90000 → 1 ≤ m → m ≤ n → FnR Tryd.prog 44 [sl hashT.toTy l, is (.int .i64 (m : Int)), is (.bool yes)] [] (fun ψ Δ => ∃ A c, ψ = is (.slice A (cpart l m yes).length c) ∧ Δ = [row (.slice A (cpart l m yes).length c) 27 hashT.toTy (cpart l m yes)]) := by
  intro n
  induction n using Nat.strongRecOn with
  | _ n ih =>
    intro l m yes hn hle h1 hm
    refine FnR.mk' 47 Tryd.func44 rfl rfl rfl rfl fun w0 H0 => ?_
    by_cases he : m = l.length
    · rw [cpart_all h1 he]
      cases yes with
      | true =>
        rw [if_pos rfl]
        refine J.nilrow 27 hashT.toTy ?_
        repeat (first | ((first | (apply Lq.s; rfl) | apply PRun.s | (apply Lq.run; rfl; rfl; rfl; exact bsB) | (apply PRun.run; rfl; rfl; exact bsB)); first | (exact bsO)) | apply J.seq | apply E.next | apply J.lq | apply Lq.nil | apply PRun.nil | apply J.block | apply E.in_normal | apply J.skip | (apply Lq.store; rfl; rfl; exact bsP; exact bsS; rfl; rfl) | (apply PRun.al; rfl) | (apply Lq.al; rfl; rfl; intro b) | (apply Open.cons; intro b) | apply Open.nil | (apply Lq.pass; rfl; rfl; rfl) | (apply PRun.pass; rfl; rfl) | (apply Lq.skip; rfl; rfl; rfl; exact bsB) | (apply PRun.skip; rfl; rfl; exact bsB) | (apply J.drawN; exact mixed; kernel_rfl) | (apply J.cond_t; rfl) | (apply J.cond_f; rfl) | apply J.exit | apply E.then_exit | apply E.in_exit | (apply E.in_other; rfl))
        (refine J.ret ?_; (repeat (first | refine E.then_ret ?_ | refine E.in_ret ?_)))
        exact E.retR1 (G := []) rfl rfl ⟨none, 0, rfl, rfl⟩ (List.Perm.refl _)
      | false =>
        rw [if_neg (by decide)]
        have hroot := refroot_fn l.length l rfl (by omega)
        generalize mroot l = r at *
        repeat (first | ((first | (apply Lq.s; rfl) | apply PRun.s | (apply Lq.run; rfl; rfl; rfl; exact bsB) | (apply PRun.run; rfl; rfl; exact bsB)); first | (apply op_call hroot; exact bsD) | (exact bsO)) | apply J.seq | apply E.next | apply J.lq | apply Lq.nil | apply PRun.nil | apply J.block | apply E.in_normal | apply J.skip | (apply Lq.store; rfl; rfl; exact bsP; exact bsS; rfl; rfl) | (apply PRun.al; rfl) | (apply Lq.al; rfl; rfl; intro b) | (apply Open.cons; intro b) | apply Open.nil | (apply Lq.pass; rfl; rfl; rfl) | (apply PRun.pass; rfl; rfl) | (apply Lq.skip; rfl; rfl; rfl; exact bsB) | (apply PRun.skip; rfl; rfl; exact bsB) | (apply J.drawN; exact mixed; kernel_rfl) | (apply J.cond_t; rfl) | (apply J.cond_f; rfl) | apply J.exit | apply E.then_exit | apply E.in_exit | (apply E.in_other; rfl))
        (apply Lq.bsl (T := hashT) (xs := [r]); rfl; (repeat (first | exact PO.nil _ | (apply PO.cons; rfl))); rfl; rfl; rfl)
        intro A1 c1
        repeat (first | ((first | (apply Lq.s; rfl) | apply PRun.s | (apply Lq.run; rfl; rfl; rfl; exact bsB) | (apply PRun.run; rfl; rfl; exact bsB)); first | (exact bsO)) | apply J.seq | apply E.next | apply J.lq | apply Lq.nil | apply PRun.nil | apply J.block | apply E.in_normal | apply J.skip | (apply Lq.store; rfl; rfl; exact bsP; exact bsS; rfl; rfl) | (apply PRun.al; rfl) | (apply Lq.al; rfl; rfl; intro b) | (apply Open.cons; intro b) | apply Open.nil | (apply Lq.pass; rfl; rfl; rfl) | (apply PRun.pass; rfl; rfl) | (apply Lq.skip; rfl; rfl; rfl; exact bsB) | (apply PRun.skip; rfl; rfl; exact bsB) | (apply J.drawN; exact mixed; kernel_rfl) | (apply J.cond_t; rfl) | (apply J.cond_f; rfl) | apply J.exit | apply E.then_exit | apply E.in_exit | (apply E.in_other; rfl))
        (refine J.ret ?_; (repeat (first | refine E.then_ret ?_ | refine E.in_ret ?_)))
        exact E.retR1 (G := []) rfl rfl ⟨A1, c1, rfl, rfl⟩ (List.Perm.refl _)
    · obtain ⟨s1, s2, s3⟩ := split_lt (n := l.length) (by omega)
      have hsp := refsplitN_fn l.length (by omega)
      have l1 : (l.take (split l.length)).length = split l.length := by rw [List.length_take]; omega
      have l2 : (l.drop (split l.length)).length = l.length - split l.length := List.length_drop
      by_cases hk : m ≤ split l.length
      · have hc := cpart_left h1 (by omega) hk yes
        have hql := cpart_len (split l.length) (l.take (split l.length)) m yes l1 h1 hk
        generalize split l.length = s at *
        have hroot := refroot_fn _ (l.drop s) rfl (by omega)
        have hrec := ih s (by omega) (l.take s) m yes l1 (by omega) h1 hk
        rw [hc]
        generalize mroot (l.drop s) = r at *
        generalize cpart (l.take s) m yes = q at *
        repeat (first | ((first | (apply Lq.s; rfl) | apply PRun.s | (apply Lq.run; rfl; rfl; rfl; exact bsB) | (apply PRun.run; rfl; rfl; exact bsB)); first | (apply op_call hsp; exact bsD) | (exact bsO)) | apply J.seq | apply E.next | apply J.lq | apply Lq.nil | apply PRun.nil | apply J.block | apply E.in_normal | apply J.skip | (apply Lq.store; rfl; rfl; exact bsP; exact bsS; rfl; rfl) | (apply PRun.al; rfl) | (apply Lq.al; rfl; rfl; intro b) | (apply Open.cons; intro b) | apply Open.nil | (apply Lq.pass; rfl; rfl; rfl) | (apply PRun.pass; rfl; rfl) | (apply Lq.skip; rfl; rfl; rfl; exact bsB) | (apply PRun.skip; rfl; rfl; exact bsB) | (apply J.cond_t; rfl) | (apply J.cond_f; rfl) | apply J.exit | apply E.then_exit | apply E.in_exit | (apply E.in_other; rfl))
        refine J.drawW 10 [(none, none), (none, none), (none, none), (none, none), (none, none), (none, some 27), (none, none), (none, none), (none, none), (none, none)] mixed (by kernel_rfl) ?_
        repeat (first | ((first | apply PRunW.s | (apply PRunW.run; rfl; rfl; exact bsB) | (apply Lq.s; rfl) | apply PRun.s | (apply Lq.run; rfl; rfl; rfl; exact bsB) | (apply PRun.run; rfl; rfl; exact bsB)); first | (apply op_ksl_hi (T := hashT.toTy) (hi := s); rfl; rfl; omega) | (exact bsO)) | apply J.seq | apply E.next | apply J.lq | apply Lq.nil | apply PRun.nil | apply J.block | apply E.in_normal | apply J.skip | (apply Lq.store; rfl; rfl; exact bsP; exact bsS; rfl; rfl) | (apply PRun.al; rfl) | (apply Lq.al; rfl; rfl; intro b) | (apply Open.cons; intro b) | apply Open.nil | (apply Lq.pass; rfl; rfl; rfl) | (apply PRun.pass; rfl; rfl) | (apply Lq.skip; rfl; rfl; rfl; exact bsB) | (apply PRun.skip; rfl; rfl; exact bsB) | (apply J.cond_t; rfl) | (apply J.cond_f; rfl) | apply J.exit | apply E.then_exit | apply E.in_exit | (apply E.in_other; rfl) | apply PRunW.nil | (apply PRunW.al; rfl) | (apply PRunW.pass; rfl; rfl) | (apply PRunW.skip; rfl; rfl; exact bsB) | (apply Open.pv; intro b) | apply Open.av | (apply Open.rv; intro A c))
        (apply PRunW.mk (R := fun v => row v 27 hashT.toTy q) anySl_row (opR_call hrec bsD))
        repeat (first | ((first | apply PRunW.s | (apply PRunW.run; rfl; rfl; exact bsB) | (apply Lq.s; rfl) | apply PRun.s | (apply Lq.run; rfl; rfl; rfl; exact bsB) | (apply PRun.run; rfl; rfl; exact bsB)); first | (apply op_ksl_lo (T := hashT.toTy) (lo := s); rfl; rfl; omega) | (apply op_call hroot; exact bsD) | (apply op_bslice hashT (xs := [r]); (repeat (first | exact PO.nil _ | (apply PO.cons; rfl))); rfl; rfl; rfl) | (exact bsO)) | apply J.seq | apply E.next | apply J.lq | apply Lq.nil | apply PRun.nil | apply J.block | apply E.in_normal | apply J.skip | (apply Lq.store; rfl; rfl; exact bsP; exact bsS; rfl; rfl) | (apply PRun.al; rfl) | (apply Lq.al; rfl; rfl; intro b) | (apply Open.cons; intro b) | apply Open.nil | (apply Lq.pass; rfl; rfl; rfl) | (apply PRun.pass; rfl; rfl) | (apply Lq.skip; rfl; rfl; rfl; exact bsB) | (apply PRun.skip; rfl; rfl; exact bsB) | (apply J.cond_t; rfl) | (apply J.cond_f; rfl) | apply J.exit | apply E.then_exit | apply E.in_exit | (apply E.in_other; rfl) | apply PRunW.nil | (apply PRunW.al; rfl) | (apply PRunW.pass; rfl; rfl) | (apply PRunW.skip; rfl; rfl; exact bsB) | (apply Open.pv; intro b) | apply Open.av | (apply Open.rv; intro A c))
        (apply Lq.append (T := hashT) (xs := q) (ys := [r]); rfl; exact List.Perm.refl _; (apply From.sl; rfl); rfl; rfl; rfl; (show _ + 1 ≤ maxLen; unfold maxLen; omega); (show (_ + 1) * 32 ≤ _; omega))
        intro A1 c1
        repeat (first | ((first | (apply Lq.s; rfl) | apply PRun.s | (apply Lq.run; rfl; rfl; rfl; exact bsB) | (apply PRun.run; rfl; rfl; exact bsB)); first | (exact bsO)) | apply J.seq | apply E.next | apply J.lq | apply Lq.nil | apply PRun.nil | apply J.block | apply E.in_normal | apply J.skip | (apply Lq.store; rfl; rfl; exact bsP; exact bsS; rfl; rfl) | (apply PRun.al; rfl) | (apply Lq.al; rfl; rfl; intro b) | (apply Open.cons; intro b) | apply Open.nil | (apply Lq.pass; rfl; rfl; rfl) | (apply PRun.pass; rfl; rfl) | (apply Lq.skip; rfl; rfl; rfl; exact bsB) | (apply PRun.skip; rfl; rfl; exact bsB) | (apply J.drawN; exact mixed; kernel_rfl) | (apply J.cond_t; rfl) | (apply J.cond_f; rfl) | apply J.exit | apply E.then_exit | apply E.in_exit | (apply E.in_other; rfl))
        (refine J.ret ?_; (repeat (first | refine E.then_ret ?_ | refine E.in_ret ?_)))
        exact E.retR1 (G := []) rfl rfl ⟨A1, c1, rfl, rfl⟩ (List.Perm.refl _)
      · have hc := cpart_right (l := l) (m := m) (by omega) (by omega) yes
        have hql := cpart_len (l.length - split l.length) (l.drop (split l.length)) (m - split l.length) false l2 (by omega) (by omega)
        generalize split l.length = s at *
        have hroot := refroot_fn _ (l.take s) rfl (by omega)
        have hrec := ih (l.length - s) (by omega) (l.drop s) (m - s) false l2 (by omega) (by omega) (by omega)
        rw [hc]
        generalize mroot (l.take s) = r at *
        generalize cpart (l.drop s) (m - s) false = q at *
        repeat (first | ((first | (apply Lq.s; rfl) | apply PRun.s | (apply Lq.run; rfl; rfl; rfl; exact bsB) | (apply PRun.run; rfl; rfl; exact bsB)); first | (apply op_call hsp; exact bsD) | (exact bsO)) | apply J.seq | apply E.next | apply J.lq | apply Lq.nil | apply PRun.nil | apply J.block | apply E.in_normal | apply J.skip | (apply Lq.store; rfl; rfl; exact bsP; exact bsS; rfl; rfl) | (apply PRun.al; rfl) | (apply Lq.al; rfl; rfl; intro b) | (apply Open.cons; intro b) | apply Open.nil | (apply Lq.pass; rfl; rfl; rfl) | (apply PRun.pass; rfl; rfl) | (apply Lq.skip; rfl; rfl; rfl; exact bsB) | (apply PRun.skip; rfl; rfl; exact bsB) | (apply J.cond_t; rfl) | (apply J.cond_f; rfl) | apply J.exit | apply E.then_exit | apply E.in_exit | (apply E.in_other; rfl))
        refine J.drawW 11 [(none, none), (none, none), (none, none), (none, none), (none, none), (none, none), (none, some 40), (none, none), (none, none), (none, none), (none, none)] mixed (by kernel_rfl) ?_
        repeat (first | ((first | apply PRunW.s | (apply PRunW.run; rfl; rfl; exact bsB) | (apply Lq.s; rfl) | apply PRun.s | (apply Lq.run; rfl; rfl; rfl; exact bsB) | (apply PRun.run; rfl; rfl; exact bsB)); first | (apply op_ksl_lo (T := hashT.toTy) (lo := s); rfl; rfl; omega) | (apply op_sub (c := ((m - s : Nat) : Int)); rfl; rfl; (rw [show (m : Int) - (s : Int) = ((m - s : Nat) : Int) by omega]; apply wrapi <;> omega)) | (exact bsO)) | apply J.seq | apply E.next | apply J.lq | apply Lq.nil | apply PRun.nil | apply J.block | apply E.in_normal | apply J.skip | (apply Lq.store; rfl; rfl; exact bsP; exact bsS; rfl; rfl) | (apply PRun.al; rfl) | (apply Lq.al; rfl; rfl; intro b) | (apply Open.cons; intro b) | apply Open.nil | (apply Lq.pass; rfl; rfl; rfl) | (apply PRun.pass; rfl; rfl) | (apply Lq.skip; rfl; rfl; rfl; exact bsB) | (apply PRun.skip; rfl; rfl; exact bsB) | (apply J.cond_t; rfl) | (apply J.cond_f; rfl) | apply J.exit | apply E.then_exit | apply E.in_exit | (apply E.in_other; rfl) | apply PRunW.nil | (apply PRunW.al; rfl) | (apply PRunW.pass; rfl; rfl) | (apply PRunW.skip; rfl; rfl; exact bsB) | (apply Open.pv; intro b) | apply Open.av | (apply Open.rv; intro A c))
        (apply PRunW.mk (R := fun v => row v 27 hashT.toTy q) anySl_row (opR_call hrec bsD))
        repeat (first | ((first | apply PRunW.s | (apply PRunW.run; rfl; rfl; exact bsB) | (apply Lq.s; rfl) | apply PRun.s | (apply Lq.run; rfl; rfl; rfl; exact bsB) | (apply PRun.run; rfl; rfl; exact bsB)); first | (apply op_ksl_hi (T := hashT.toTy) (hi := s); rfl; rfl; omega) | (apply op_call hroot; exact bsD) | (apply op_bslice hashT (xs := [r]); (repeat (first | exact PO.nil _ | (apply PO.cons; rfl))); rfl; rfl; rfl) | (exact bsO)) | apply J.seq | apply E.next | apply J.lq | apply Lq.nil | apply PRun.nil | apply J.block | apply E.in_normal | apply J.skip | (apply Lq.store; rfl; rfl; exact bsP; exact bsS; rfl; rfl) | (apply PRun.al; rfl) | (apply Lq.al; rfl; rfl; intro b) | (apply Open.cons; intro b) | apply Open.nil | (apply Lq.pass; rfl; rfl; rfl) | (apply PRun.pass; rfl; rfl) | (apply Lq.skip; rfl; rfl; rfl; exact bsB) | (apply PRun.skip; rfl; rfl; exact bsB) | (apply J.cond_t; rfl) | (apply J.cond_f; rfl) | apply J.exit | apply E.then_exit | apply E.in_exit | (apply E.in_other; rfl) | apply PRunW.nil | (apply PRunW.al; rfl) | (apply PRunW.pass; rfl; rfl) | (apply PRunW.skip; rfl; rfl; exact bsB) | (apply Open.pv; intro b) | apply Open.av | (apply Open.rv; intro A c))
        (apply Lq.append (T := hashT) (xs := q) (ys := [r]); rfl; exact List.Perm.refl _; (apply From.sl; rfl); rfl; rfl; rfl; (show _ + 1 ≤ maxLen; unfold maxLen; omega); (show (_ + 1) * 32 ≤ _; omega))
        intro A1 c1
        repeat (first | ((first | (apply Lq.s; rfl) | apply PRun.s | (apply Lq.run; rfl; rfl; rfl; exact bsB) | (apply PRun.run; rfl; rfl; exact bsB)); first | (exact bsO)) | apply J.seq | apply E.next | apply J.lq | apply Lq.nil | apply PRun.nil | apply J.block | apply E.in_normal | apply J.skip | (apply Lq.store; rfl; rfl; exact bsP; exact bsS; rfl; rfl) | (apply PRun.al; rfl) | (apply Lq.al; rfl; rfl; intro b) | (apply Open.cons; intro b) | apply Open.nil | (apply Lq.pass; rfl; rfl; rfl) | (apply PRun.pass; rfl; rfl) | (apply Lq.skip; rfl; rfl; rfl; exact bsB) | (apply PRun.skip; rfl; rfl; exact bsB) | (apply J.drawN; exact mixed; kernel_rfl) | (apply J.cond_t; rfl) | (apply J.cond_f; rfl) | apply J.exit | apply E.then_exit | apply E.in_exit | (apply E.in_other; rfl))
        (refine J.ret ?_; (repeat (first | refine E.then_ret ?_ | refine E.in_ret ?_)))
        exact E.retR1 (G := []) rfl rfl ⟨A1, c1, rfl, rfl⟩ (List.Perm.refl _)
theorem refprove_bad (l : List Hash) (m : Int) (hl : l.length ≤ 100000) (hm : m < 1 ∨ (l.length : Int) < m) : Fn Tryd.prog 28 [sl hashT.toTy l, is (.int .i64 m)] (tup [is (.slice none 0 0), is (.int .i64 2)]) := by
  by_cases h1 : m < 1
  · refine Fn.mk' 17 Tryd.func28 rfl rfl rfl rfl fun w0 H0 => ?_
    repeat (first | ((first | (apply Lq.s; rfl) | apply PRun.s | (apply Lq.run; rfl; rfl; rfl; exact bsB) | (apply PRun.run; rfl; rfl; exact bsB)); first | (exact bsO)) | apply J.seq | apply E.next | apply J.lq | apply Lq.nil | apply PRun.nil | apply J.block | apply E.in_normal | apply J.skip | (apply Lq.store; rfl; rfl; exact bsP; exact bsS; rfl; rfl) | (apply PRun.al; rfl) | (apply Lq.al; rfl; rfl; intro b) | (apply Open.cons; intro b) | apply Open.nil | (apply Lq.pass; rfl; rfl; rfl) | (apply PRun.pass; rfl; rfl) | (apply Lq.skip; rfl; rfl; rfl; exact bsB) | (apply PRun.skip; rfl; rfl; exact bsB) | (apply J.drawN; exact mixed; kernel_rfl) | (apply J.cond_t; rfl) | (apply J.cond_f; rfl) | apply J.exit | apply E.then_exit | apply E.in_exit | (apply E.in_other; rfl))
    (refine J.ret ?_; (repeat (first | refine E.then_ret ?_ | refine E.in_ret ?_)))
    exact E.ret2 rfl rfl rfl
  · have h2 : (l.length : Int) < m := by omega
    refine Fn.mk' 17 Tryd.func28 rfl rfl rfl rfl fun w0 H0 => ?_
    repeat (first | ((first | (apply Lq.s; rfl) | apply PRun.s | (apply Lq.run; rfl; rfl; rfl; exact bsB) | (apply PRun.run; rfl; rfl; exact bsB)); first | (exact bsO)) | apply J.seq | apply E.next | apply J.lq | apply Lq.nil | apply PRun.nil | apply J.block | apply E.in_normal | apply J.skip | (apply Lq.store; rfl; rfl; exact bsP; exact bsS; rfl; rfl) | (apply PRun.al; rfl) | (apply Lq.al; rfl; rfl; intro b) | (apply Open.cons; intro b) | apply Open.nil | (apply Lq.pass; rfl; rfl; rfl) | (apply PRun.pass; rfl; rfl) | (apply Lq.skip; rfl; rfl; rfl; exact bsB) | (apply PRun.skip; rfl; rfl; exact bsB) | (apply J.drawN; exact mixed; kernel_rfl) | (apply J.cond_t; rfl) | (apply J.cond_f; rfl) | apply J.exit | apply E.then_exit | apply E.in_exit | (apply E.in_other; rfl))
    (refine J.ret ?_; (repeat (first | refine E.then_ret ?_ | refine E.in_ret ?_)))
    exact E.ret2 rfl rfl rfl
theorem refprove_fnR (l : List Hash) (m : Nat) (hl : l.length ≤ 90000) (h1 : 1 ≤ m) (hm : m ≤ l.length) : FnR Tryd.prog 28 [sl hashT.toTy l, is (.int .i64 (m : Int))] [] (fun ψ Δ => ∃ A c, ψ = tup [is (.slice A (cpart l m true).length c), is (.int .i64 0)] ∧ Δ = [row (.slice A (cpart l m true).length c) 27 hashT.toTy (cpart l m true)]) := by
  have hp := part_fnR l.length l m true rfl hl h1 hm
  generalize cpart l m true = q at *
  refine FnR.mk' 17 Tryd.func28 rfl rfl rfl rfl fun w0 H0 => ?_
  repeat (first | ((first | (apply Lq.s; rfl) | apply PRun.s | (apply Lq.run; rfl; rfl; rfl; exact bsB) | (apply PRun.run; rfl; rfl; exact bsB)); first | (exact bsO)) | apply J.seq | apply E.next | apply J.lq | apply Lq.nil | apply PRun.nil | apply J.block | apply E.in_normal | apply J.skip | (apply Lq.store; rfl; rfl; exact bsP; exact bsS; rfl; rfl) | (apply PRun.al; rfl) | (apply Lq.al; rfl; rfl; intro b) | (apply Open.cons; intro b) | apply Open.nil | (apply Lq.pass; rfl; rfl; rfl) | (apply PRun.pass; rfl; rfl) | (apply Lq.skip; rfl; rfl; rfl; exact bsB) | (apply PRun.skip; rfl; rfl; exact bsB) | (apply J.drawN; exact mixed; kernel_rfl) | (apply J.cond_t; rfl) | (apply J.cond_f; rfl) | apply J.exit | apply E.then_exit | apply E.in_exit | (apply E.in_other; rfl))
  refine Lq.callS (Δ0 := []) (Δf := []) hp rfl bsD (List.Perm.refl _) ?_
  rintro _ _ ⟨A, c, rfl, rfl⟩
  repeat (first | ((first | (apply Lq.s; rfl) | apply PRun.s | (apply Lq.run; rfl; rfl; rfl; exact bsB) | (apply PRun.run; rfl; rfl; exact bsB)); first | (exact bsO)) | apply J.seq | apply E.next | apply J.lq | apply Lq.nil | apply PRun.nil | apply J.block | apply E.in_normal | apply J.skip | (apply Lq.store; rfl; rfl; exact bsP; exact bsS; rfl; rfl) | (apply PRun.al; rfl) | (apply Lq.al; rfl; rfl; intro b) | (apply Open.cons; intro b) | apply Open.nil | (apply Lq.pass; rfl; rfl; rfl) | (apply PRun.pass; rfl; rfl) | (apply Lq.skip; rfl; rfl; rfl; exact bsB) | (apply PRun.skip; rfl; rfl; exact bsB) | (apply J.drawN; exact mixed; kernel_rfl) | (apply J.cond_t; rfl) | (apply J.cond_f; rfl) | apply J.exit | apply E.then_exit | apply E.in_exit | (apply E.in_other; rfl))
  (refine J.ret ?_; (repeat (first | refine E.then_ret ?_ | refine E.in_ret ?_)))
  exact E.retR2 (G := []) rfl rfl rfl ⟨A, c, rfl, rfl⟩ (List.Perm.refl _)
end Go.Proofs.YtkhgebacgkgpcaaDoor.L
/-
  The document's check of consistency, walked.
-/
namespace Go.Proofs.YtkhgebacgkgpcaaDoor.L
open Go
set_option linter.unusedSectionVars false
variable [Globs] [Has_sha_table] [Has_sha_begin]
theorem leadsR_yes (r : List Hash) (m : Nat) (a : Hash) : leadsR r m m true a = ((a, a), decide (r.length = 0)) := by
  cases r with
  | nil => unfold leadsR; simp
  | cons h r => unfold leadsR; rw [if_pos rfl, if_pos rfl]; rfl
theorem leadsR_nil {m n : Nat} {yes : Bool} (h : ¬ (m = n ∧ yes = true)) (a : Hash) : leadsR [] m n yes a = ((a, a), false) := by
  unfold leadsR
  cases yes with
  | false => rw [Bool.and_false]
  | true => rw [decide_eq_false (fun he => h ⟨he, rfl⟩)]; rfl
theorem leadsR_no (h : Hash) (r : List Hash) (m : Nat) (a : Hash) : leadsR (h :: r) m m false a = ((h, h), decide (r.length = 0)) := by
  unfold leadsR
  rw [if_pos rfl, if_neg (by decide)]
  cases r <;> rfl
theorem leadsR_left {h : Hash} {r : List Hash} {m n : Nat} {yes : Bool} {a : Hash} (hmn : m ≠ n) (hk : m ≤ split n) : leadsR (h :: r) m n yes a = (((leadsR r m (split n) yes a).1.1, nodeH (leadsR r m (split n) yes a).1.2 h), (leadsR r m (split n) yes a).2) := by
  conv => lhs; unfold leadsR
  rw [if_neg hmn, if_pos hk]
theorem leadsR_right {h : Hash} {r : List Hash} {m n : Nat} {yes : Bool} {a : Hash} (hmn : m ≠ n) (hk : ¬ m ≤ split n) : leadsR (h :: r) m n yes a = ((nodeH h (leadsR r (m - split n) (n - split n) false a).1.1, nodeH h (leadsR r (m - split n) (n - split n) false a).1.2), (leadsR r (m - split n) (n - split n) false a).2) := by
  conv => lhs; unfold leadsR
  rw [if_neg hmn, if_neg hk]
variable [Has_ref02_k]
set_option linter.unusedVariables false
set_option linter.unusedSimpArgs false
attribute [local irreducible] J Lq E OpP PRun is any agg tup ptr sl PRunW OpE
attribute [local irreducible] up2 mroot nodeH leafH emptyH shaH ownAt row someL leafOf splitZ split rv ways pairT cpart leadsR
end Go.Proofs.YtkhgebacgkgpcaaDoor.L
/-
  Both checks, the examples of layer 12.
-/
namespace Go.Proofs.YtkhgebacgkgpcaaDoor.L
open Go
set_option linter.unusedSectionVars false
variable [Globs] [Has_sha_table] [Has_sha_begin]
theorem okC_all {m n : Nat} (h1 : 1 ≤ m) (hm : m ≤ n) (u v : Hash) (pr : List Hash) : okC m n u v pr = ((leadsR pr.reverse m n true u).2 && decide ((leadsR pr.reverse m n true u).1 = (u, v))) := by
  by_cases he : m = n
  · subst he
    rw [leadsR_yes, List.length_reverse]
    unfold okC
    rw [if_pos rfl]
    cases pr <;> simp
  · exact okC_ref h1 (by omega) u v pr
/-- What a check tells. -/
def chkC (m n : Int) (u v : Hash) (pr : List Hash) : Int := if m < 1 ∨ n < m then 2 else if okC m.toNat n.toNat u v pr = true then 0 else 110
theorem chkC_bad {m n : Int} (h : m < 1 ∨ n < m) (u v : Hash) (pr : List Hash) : chkC m n u v pr = 2 := if_pos h
theorem chkC_ok {m n : Nat} (h1 : 1 ≤ m) (hm : m ≤ n) (u v : Hash) (pr : List Hash) : chkC m n u v pr = if okC m n u v pr = true then 0 else 110 := by
  unfold chkC
  rw [if_neg (by omega), Int.toNat_natCast, Int.toNat_natCast]
theorem check_fn (m n : Int) (u v : Hash) (pr : List Hash) (hn : n ≤ 9223372036854775807) (hl : pr.length ≤ 80000) : Fn Tryd.prog 17 [is (.int .i64 m), is (.int .i64 n), hashT.val u, hashT.val v, sl hashT.toTy pr] (is (.int .i64 (chkC m n u v pr))) := by
  by_cases h : m < 1 ∨ n < m
  · rw [chkC_bad h]
    exact check_bad m n u v pr h
  · obtain ⟨a, rfl⟩ : ∃ a : Nat, m = a := ⟨m.toNat, by omega⟩
    obtain ⟨c, rfl⟩ : ∃ c : Nat, n = c := ⟨n.toNat, by omega⟩
    rw [chkC_ok (by omega) (by omega)]
    by_cases he : a = c
    · subst he
      have : okC a a u v pr = (pr.isEmpty && decide (u = v)) := by unfold okC; rw [if_pos rfl]
      rw [this]
      exact check_same a u v pr (by omega)
    · exact check_lt a c u v pr (by omega) (by omega) (by omega) hl
theorem tup3_eq {x y x' y' : Hash} : ((x, y) = (x', y')) ↔ (x = x' ∧ y = y') := Prod.mk.injEq x y x' y' ▸ Iff.rfl
theorem cprove_fn (l : List Hash) (m : Nat) (hl : l.length ≤ 90000) (h1 : 1 ≤ m) (hm : m ≤ l.length) : Fn Tryd.prog 27 [sl hashT.toTy l, is (.int .i64 (m : Int))] (tup [sl hashT.toTy (cpart l m true), is (.int .i64 0)]) := (cprove_fnR l m hl h1 hm).frz2
set_option linter.unusedVariables false
set_option linter.unusedSimpArgs false
attribute [local irreducible] J Lq E OpP PRun is any agg tup ptr sl PRunW OpE
attribute [local irreducible] up2 mroot nodeH leafH emptyH shaH ownAt row someL leafOf splitZ split rv ways pairT cpart leadsR okC chkC
variable [Has_ref02_k]
end Go.Proofs.YtkhgebacgkgpcaaDoor.L
