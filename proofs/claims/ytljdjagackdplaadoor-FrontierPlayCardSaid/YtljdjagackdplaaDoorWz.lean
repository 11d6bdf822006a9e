/-
  Rows that are given up, and rows that are compared, walked.
-/
import Derived.Test.YtljdjagackdplaaDoorWa
import Derived.Test.YtljdjagackdplaaDoorLu
namespace Go.Proofs.YtljdjagackdplaaDoor.L
open Go
set_option linter.unusedSectionVars false
variable [Globs] [Has_sha_table] [Has_sha_begin]
set_option linter.unusedVariables false
/-! ### Rows that are given up -/
theorem weakLast {φ φ' : Pr} (h : ∀ H v, φ'.h H v → φ.h H v) : ∀ (xs : List Pr) H vs, All2 (fun (φ : Pr) v => φ.h H v) (xs ++ [φ']) vs → All2 (fun (φ : Pr) v => φ.h H v) (xs ++ [φ]) vs
  | [], H, [v], ⟨h1, _⟩ => ⟨h H v h1, trivial⟩
  | [], _, [], h => h.elim
  | [], _, _ :: _ :: _, ⟨_, h⟩ => h.elim
  | _ :: xs, H, _ :: vs, ⟨h1, h2⟩ => ⟨h1, weakLast h xs H vs h2⟩
  | _ :: _, _, [], h => h.elim
theorem sl_of_nil {α : Type} {T : Ty α} (H : IH) (v : Value) (h : (is (.slice none 0 0)).h H v) : (sl T []).h H v := sl_nil H v h
def nine : Hash := ⟨9 :: List.replicate 31 0, rfl⟩
theorem weakTwo {φ φ' χ χ' : Pr} (h : ∀ H v, φ'.h H v → φ.h H v) (k : ∀ H v, χ'.h H v → χ.h H v) : ∀ H vs, All2 (fun (φ : Pr) v => φ.h H v) [φ', χ'] vs → All2 (fun (φ : Pr) v => φ.h H v) [φ, χ] vs
  | H, [v, u], ⟨h1, h2, _⟩ => ⟨h H v h1, k H u h2, trivial⟩
  | _, [], h => h.elim
  | _, [_], ⟨_, h⟩ => h.elim
  | _, _ :: _ :: _ :: _, ⟨_, _, h⟩ => h.elim
theorem weakAt {φ φ' : Pr} (h : ∀ H v, φ'.h H v → φ.h H v) : ∀ (xs ys : List Pr) H vs, All2 (fun (φ : Pr) v => φ.h H v) (xs ++ φ' :: ys) vs → All2 (fun (φ : Pr) v => φ.h H v) (xs ++ φ :: ys) vs
  | [], _, H, v :: _, ⟨h1, h2⟩ => ⟨h H v h1, h2⟩
  | [], _, _, [], h => h.elim
  | _ :: xs, ys, H, _ :: vs, ⟨h1, h2⟩ => ⟨h1, weakAt h xs ys H vs h2⟩
  | _ :: _, _, _, [], h => h.elim
set_option linter.unusedVariables false
set_option linter.unusedSimpArgs false
attribute [local irreducible] J Lq E OpP PRun is any agg tup ptr sl PRunW OpE
attribute [local irreducible] up2 mroot nodeH leafH emptyH shaH ownAt row someL leafOf splitZ split rv slw
theorem sameO_fnR (l : List Hash) (hl : l.length ≤ 1000000) (A : Option Addr) (c e : Nat) : FnR Tryd.prog 16 [is (.slice A l.length c), sl hashT.toTy l] [row (.slice A l.length c) e hashT.toTy l] (fun ψ Δ => ψ = is (.bool true) ∧ Δ = [row (.slice A l.length c) e hashT.toTy l]) := by
  refine FnR.mk' 26 Tryd.func16 rfl rfl rfl rfl fun w0 H0 => ?_
  by_cases h0 : l = []
  · subst h0
    have hp0 : ([] : List Hash).length = 0 := rfl
    repeat (first | ((first | (apply Lq.s; rfl) | apply PRun.s | (apply Lq.run; rfl; rfl; rfl; exact bsB) | (apply PRun.run; rfl; rfl; exact bsB)); first | (apply op_slen; rfl) | (exact bsO)) | apply J.seq | apply E.next | apply J.lq | apply Lq.nil | apply PRun.nil | apply J.block | apply E.in_normal | apply J.skip | (apply Lq.store; rfl; rfl; exact bsP; exact bsS; rfl; rfl) | (apply PRun.al; rfl) | (apply Lq.al; rfl; rfl; intro b) | (apply Open.cons; intro b) | apply Open.nil | (apply Lq.pass; rfl; rfl; rfl) | (apply PRun.pass; rfl; rfl) | (apply Lq.skip; rfl; rfl; rfl; exact bsB) | (apply PRun.skip; rfl; rfl; exact bsB) | (apply J.drawN; exact mixed; kernel_rfl) | (apply J.cond_t; rfl) | (apply J.cond_f; rfl) | apply J.exit | apply E.then_exit | apply E.in_exit | (apply E.in_other; rfl))
    refine J.loop (fun _ : Nat => True) (fun i => [(0, is (.slice A ([] : List Hash).length c)), (5, is (.int .i64 0))]) (fun _ => [row (.slice A ([] : List Hash).length c) e hashT.toTy []]) (fun i => 0) 0 trivial (Sub.same (by repeat' (first | exact trivial | refine ⟨rfl, ?_⟩))) ?_
    intro i _
    repeat (first | ((first | (apply Lq.s; rfl) | apply PRun.s | (apply Lq.run; rfl; rfl; rfl; exact bsB) | (apply PRun.run; rfl; rfl; exact bsB)); first | (apply op_slen; rfl) | (exact bsO)) | apply J.seq | apply E.next | apply J.lq | apply Lq.nil | apply PRun.nil | apply J.block | apply E.in_normal | apply J.skip | (apply Lq.store; rfl; rfl; exact bsP; exact bsS; rfl; rfl) | (apply PRun.al; rfl) | (apply Lq.al; rfl; rfl; intro b) | (apply Open.cons; intro b) | apply Open.nil | (apply Lq.pass; rfl; rfl; rfl) | (apply PRun.pass; rfl; rfl) | (apply Lq.skip; rfl; rfl; rfl; exact bsB) | (apply PRun.skip; rfl; rfl; exact bsB) | (apply J.drawN; exact mixed; kernel_rfl) | (apply J.cond_t; rfl) | (apply J.cond_f; rfl) | apply J.exit | apply E.then_exit | apply E.in_exit | (apply E.in_other; rfl))
    (refine J.ret ?_; (repeat (first | refine E.then_ret ?_ | refine E.in_ret ?_)))
    exact E.retR1 (G := []) rfl rfl ⟨rfl, rfl⟩ (List.Perm.refl _)
  · refine J.open (List.Perm.refl _) h0 ?_
    intro rb ro cap pre post hR
    obtain ⟨hv, hpre, hle, hcap, hroom, _⟩ := hR
    injection hv with hA _ hc
    subst hA; subst hc
    repeat (first | ((first | (apply Lq.s; rfl) | apply PRun.s | (apply Lq.run; rfl; rfl; rfl; exact bsB) | (apply PRun.run; rfl; rfl; exact bsB)); first | (apply op_slen; rfl) | (exact bsO)) | apply J.seq | apply E.next | apply J.lq | apply Lq.nil | apply PRun.nil | apply J.block | apply E.in_normal | apply J.skip | (apply Lq.store; rfl; rfl; exact bsP; exact bsS; rfl; rfl) | (apply PRun.al; rfl) | (apply Lq.al; rfl; rfl; intro b) | (apply Open.cons; intro b) | apply Open.nil | (apply Lq.pass; rfl; rfl; rfl) | (apply PRun.pass; rfl; rfl) | (apply Lq.skip; rfl; rfl; rfl; exact bsB) | (apply PRun.skip; rfl; rfl; exact bsB) | (apply J.drawN; exact mixed; kernel_rfl) | (apply J.cond_t; rfl) | (apply J.cond_f; rfl) | apply J.exit | apply E.then_exit | apply E.in_exit | (apply E.in_other; rfl))
    refine J.loop (fun i : Nat => i ≤ l.length) (fun i => [(0, is (.slice (some ⟨rb, ro, none⟩) l.length c)), (1, sl hashT.toTy l), (5, is (.int .i64 (i : Int)))]) (fun _ => [own rb e (pre ++ flat hashT.toTy l ++ post)]) (fun i => l.length - i) 0 (Nat.zero_le _) (Sub.same (by repeat' (first | exact trivial | refine ⟨rfl, ?_⟩))) ?_
    rintro i hi
    by_cases hlt : i < l.length
    · obtain ⟨p, hp⟩ : ∃ p, l[i]? = some p := ⟨_, List.getElem?_eq_getElem hlt⟩
      repeat (first | ((first | (apply Lq.s; rfl) | apply PRun.s | (apply Lq.run; rfl; rfl; rfl; exact bsB) | (apply PRun.run; rfl; rfl; exact bsB)); first | (apply op_slen; rfl) | (apply op_siaddr; rfl; rfl; omega; omega) | (apply op_iaddr hashT.toTy (x := p); rfl; rfl; exact Int.natCast_nonneg _; (rw [Int.toNat_natCast]; exact hp)) | (apply op_load hashT; rfl) | (apply op_oload hashT (x := p); rfl; exact bsM; exact at_row hashT.toTy hpre (by rw [Int.toNat_natCast]; exact hp)) | (apply op_neA_f (T := hashT) (m := 2) (eqd_arr eqd_u8) rfl rfl; rfl; rfl; rfl) | (exact bsO)) | apply J.seq | apply E.next | apply J.lq | apply Lq.nil | apply PRun.nil | apply J.block | apply E.in_normal | apply J.skip | (apply Lq.store; rfl; rfl; exact bsP; exact bsS; rfl; rfl) | (apply PRun.al; rfl) | (apply Lq.al; rfl; rfl; intro b) | (apply Open.cons; intro b) | apply Open.nil | (apply Lq.pass; rfl; rfl; rfl) | (apply PRun.pass; rfl; rfl) | (apply Lq.skip; rfl; rfl; rfl; exact bsB) | (apply PRun.skip; rfl; rfl; exact bsB) | (apply J.drawN; exact mixed; kernel_rfl) | (apply J.cond_t; rfl) | (apply J.cond_f; rfl) | apply J.exit | apply E.then_exit | apply E.in_exit | (apply E.in_other; rfl))
      exact E.again (i + 1) (by omega) (by omega) (Sub.same (by repeat' (first | exact trivial | refine ⟨rfl, ?_⟩)))
    · obtain rfl : i = l.length := by omega
      repeat (first | ((first | (apply Lq.s; rfl) | apply PRun.s | (apply Lq.run; rfl; rfl; rfl; exact bsB) | (apply PRun.run; rfl; rfl; exact bsB)); first | (apply op_slen; rfl) | (exact bsO)) | apply J.seq | apply E.next | apply J.lq | apply Lq.nil | apply PRun.nil | apply J.block | apply E.in_normal | apply J.skip | (apply Lq.store; rfl; rfl; exact bsP; exact bsS; rfl; rfl) | (apply PRun.al; rfl) | (apply Lq.al; rfl; rfl; intro b) | (apply Open.cons; intro b) | apply Open.nil | (apply Lq.pass; rfl; rfl; rfl) | (apply PRun.pass; rfl; rfl) | (apply Lq.skip; rfl; rfl; rfl; exact bsB) | (apply PRun.skip; rfl; rfl; exact bsB) | (apply J.drawN; exact mixed; kernel_rfl) | (apply J.cond_t; rfl) | (apply J.cond_f; rfl) | apply J.exit | apply E.then_exit | apply E.in_exit | (apply E.in_other; rfl))
      (refine J.ret ?_; (repeat (first | refine E.then_ret ?_ | refine E.in_ret ?_)))
      refine E.close hashT.toTy l (b := rb) (o := ro) (cap := c) (List.Perm.refl _) ?_ hle hcap (take_rowT hashT.toTy hpre) ?_
      · simp only [List.length_append, flat_len] at hroom ⊢
        exact hroom
      exact E.retR1 (G := []) rfl rfl ⟨rfl, rfl⟩ (List.Perm.refl _)
end Go.Proofs.YtljdjagackdplaaDoor.L
