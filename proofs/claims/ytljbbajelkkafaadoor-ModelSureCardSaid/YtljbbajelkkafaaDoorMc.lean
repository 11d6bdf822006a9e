/-
  Rules: rows given up inside values; calls that are lent a row; clones of rows, walked.
-/
import Derived.Test.YtljbbajelkkafaaDoorMb
import Derived.Test.YtljbbajelkkafaaDoorNf
import Derived.Test.YtljbbajelkkafaaDoorNx
namespace Go.Proofs.YtljbbajelkkafaaDoor.L
open Go
set_option linter.unusedSectionVars false
variable [Globs] [Has_sha_table] [Has_sha_begin]
set_option linter.unusedVariables false
theorem Lq.frzA {C : Cx} {Γ : Env} {Δ Δ' : List Res} {Q : Exit → Act → World → Prop} {ops : Array Oper} {rest : List Oper} {α : Type} {T : Ty α} {xs : List α} {v : Value} {e : Nat} {ps : List Pr} (d i : Nat) (h : look Γ d = some (agg ps)) (hi : ps[i]? = some (is v)) (hp : Δ.Perm (row v e T xs :: Δ'))
    (k : Lq C ((d, agg (ps.set i (sl T xs))) :: Γ) Δ' ops rest Q) : Lq C Γ Δ ops rest Q := fun H a w S => by
  obtain ⟨H', S', hle, hsl⟩ := S.freeze hp
  refine k H' a w (S'.weak fun t χ ht => ?_)
  unfold look at ht
  split at ht
  · rename_i hk
    have hk := Nat.eq_of_beq_eq_true hk
    subst hk
    injection ht with ht; subst ht
    obtain ⟨u, hu, h2⟩ := S'.env d _ h
    refine ⟨u, hu, ?_⟩
    obtain ⟨cs, hcv, hc⟩ := h2
    refine ⟨cs, hcv, All2.of_get (by rw [List.length_set]; exact hc.length) fun j φ c hj hcj => ?_⟩
    rw [List.getElem?_set] at hj
    split at hj
    · rename_i e2; subst e2
      split at hj
      · injection hj with hj; subst hj
        obtain ⟨c', hc', h3⟩ := hc.get _ _ hi
        rw [hcj] at hc'; injection hc' with hc'; subst hc'
        have h4 : c = v := h3.1
        exact ⟨by rw [h4]; exact hsl, h3.2⟩
      · cases hj
    · obtain ⟨c', hc', h3⟩ := hc.get _ _ hj
      rw [hcj] at hc'; injection hc' with hc'; subst hc'
      exact h3
  · exact S'.env t χ ht
theorem plain_mrec : plainT mrecT.toTy := fun x φ h => by
  rcases List.mem_append.1 h with h | h
  · rcases List.mem_cons.1 h with rfl | h
    · exact ⟨_, rfl⟩
    rcases List.mem_cons.1 h with rfl | h
    · exact ⟨_, rfl⟩
    rw [List.mem_singleton] at h; subst h; exact ⟨_, rfl⟩
  · have h : φ ∈ flat u8T.toTy x.hash.1 := h
    unfold flat at h
    obtain ⟨l, hl, hφ⟩ := List.mem_flatten.1 h
    obtain ⟨c, _, rfl⟩ := List.mem_map.1 hl
    have hφ : φ ∈ [is (.int .u8 (c.toNat : Int))] := hφ
    rw [List.mem_singleton] at hφ
    exact ⟨_, hφ⟩
set_option linter.unusedVariables false
set_option linter.unusedSimpArgs false
attribute [local irreducible] J Lq E OpP PRun is any agg tup ptr sl PRunW OpE
attribute [local irreducible] slt row leafH shaH
theorem mrclone_fnR (l : List MRec) (hl : l.length ≤ 100000) : FnR Tryd.prog 76 [sl mrecT.toTy l] [] (fun ψ Δ => ∃ A c, ψ = is (.slice A l.length c) ∧ Δ = [row (.slice A l.length c) 81 mrecT.toTy l]) := by
  refine FnR.mk' 8 Tryd.func76 rfl rfl rfl rfl fun w0 H0 => ?_
  refine J.nilrow 81 mrecT.toTy ?_
  repeat (first | ((first | (apply Lq.s; rfl) | apply PRun.s | (apply Lq.run; rfl; rfl; rfl; exact bsB) | (apply PRun.run; rfl; rfl; exact bsB)); first | (exact bsO)) | apply J.seq | apply E.next | apply J.lq | apply Lq.nil | apply PRun.nil | apply J.block | apply E.in_normal | apply J.skip | (apply Lq.store; rfl; rfl; exact bsP; exact bsS; rfl; rfl) | (apply PRun.al; rfl) | (apply Lq.al; rfl; rfl; intro b) | (apply Open.cons; intro b) | apply Open.nil | (apply Lq.pass; rfl; rfl; rfl) | (apply PRun.pass; rfl; rfl) | (apply Lq.skip; rfl; rfl; rfl; exact bsB) | (apply PRun.skip; rfl; rfl; exact bsB) | (apply J.drawN; exact mixed; kernel_rfl) | (apply J.cond_t; rfl) | (apply J.cond_f; rfl) | apply J.exit | apply E.then_exit | apply E.in_exit | (apply E.in_other; rfl))
  refine Lq.slOpen 3 rfl fun A c hA => ?_
  cases A with
  | none =>
    obtain rfl := hA rfl
    repeat (first | ((first | (apply Lq.s; rfl) | apply PRun.s | (apply Lq.run; rfl; rfl; rfl; exact bsB) | (apply PRun.run; rfl; rfl; exact bsB)); first | (apply op_slnil; rfl; rfl) | (exact bsO)) | apply J.seq | apply E.next | apply J.lq | apply Lq.nil | apply PRun.nil | apply J.block | apply E.in_normal | apply J.skip | (apply Lq.store; rfl; rfl; exact bsP; exact bsS; rfl; rfl) | (apply PRun.al; rfl) | (apply Lq.al; rfl; rfl; intro b) | (apply Open.cons; intro b) | apply Open.nil | (apply Lq.pass; rfl; rfl; rfl) | (apply PRun.pass; rfl; rfl) | (apply Lq.skip; rfl; rfl; rfl; exact bsB) | (apply PRun.skip; rfl; rfl; exact bsB) | (apply J.drawN; exact mixed; kernel_rfl) | (apply J.cond_t; rfl) | (apply J.cond_f; rfl) | apply J.exit | apply E.then_exit | apply E.in_exit | (apply E.in_other; rfl))
    (refine J.ret ?_; (repeat (first | refine E.then_ret ?_ | refine E.in_ret ?_)))
    exact E.retR1 (Δ' := [row (.slice none 0 0) 81 mrecT.toTy []]) (G := []) rfl rfl ⟨none, 0, rfl, rfl⟩ (List.Perm.refl _)
  | some A =>
    (apply Lq.s; rfl; (apply op_slnil; rfl; rfl))
    (repeat (first | apply J.seq | apply E.next | apply J.lq | apply Lq.nil | apply J.block | apply E.in_normal | apply J.skip | (apply J.cond_t; rfl) | (apply J.cond_f; rfl)))
    (apply Lq.bsl (T := mrecT) (xs := []); rfl; (repeat (first | exact PO.nil _ | (apply PO.cons; rfl))); rfl; rfl; rfl)
    intro A1 c1
    repeat (first | ((first | (apply Lq.s; rfl) | apply PRun.s | (apply Lq.run; rfl; rfl; rfl; exact bsB) | (apply PRun.run; rfl; rfl; exact bsB)); first | (exact bsO)) | apply J.seq | apply E.next | apply J.lq | apply Lq.nil | apply PRun.nil | apply J.block | apply E.in_normal | apply J.skip | (apply Lq.store; rfl; rfl; exact bsP; exact bsS; rfl; rfl) | (apply PRun.al; rfl) | (apply Lq.al; rfl; rfl; intro b) | (apply Open.cons; intro b) | apply Open.nil | (apply Lq.pass; rfl; rfl; rfl) | (apply PRun.pass; rfl; rfl) | (apply Lq.skip; rfl; rfl; rfl; exact bsB) | (apply PRun.skip; rfl; rfl; exact bsB) | (apply J.drawN; exact mixed; kernel_rfl) | (apply J.cond_t; rfl) | (apply J.cond_f; rfl) | apply J.exit | apply E.then_exit | apply E.in_exit | (apply E.in_other; rfl))
    (apply Lq.append (T := mrecT) (xs := []) (ys := l); rfl; exact List.Perm.refl _; (apply From.sl; rfl); rfl; rfl; rfl; (show 0 + _ ≤ maxLen; unfold maxLen; omega); (show (0 + _) * 64 ≤ _; omega))
    intro A2 c2
    rw [List.nil_append]
    repeat (first | ((first | (apply Lq.s; rfl) | apply PRun.s | (apply Lq.run; rfl; rfl; rfl; exact bsB) | (apply PRun.run; rfl; rfl; exact bsB)); first | (exact bsO)) | apply J.seq | apply E.next | apply J.lq | apply Lq.nil | apply PRun.nil | apply J.block | apply E.in_normal | apply J.skip | (apply Lq.store; rfl; rfl; exact bsP; exact bsS; rfl; rfl) | (apply PRun.al; rfl) | (apply Lq.al; rfl; rfl; intro b) | (apply Open.cons; intro b) | apply Open.nil | (apply Lq.pass; rfl; rfl; rfl) | (apply PRun.pass; rfl; rfl) | (apply Lq.skip; rfl; rfl; rfl; exact bsB) | (apply PRun.skip; rfl; rfl; exact bsB) | (apply J.drawN; exact mixed; kernel_rfl) | (apply J.cond_t; rfl) | (apply J.cond_f; rfl) | apply J.exit | apply E.then_exit | apply E.in_exit | (apply E.in_other; rfl))
    (refine J.ret ?_; (repeat (first | refine E.then_ret ?_ | refine E.in_ret ?_)))
    exact E.retR1 (G := [_]) rfl rfl ⟨A2, c2, rfl, rfl⟩ (List.Perm.refl _)
theorem msclone_fnR (xs : List MO) (hl : xs.length ≤ 100000) (A : Option Addr) (c e : Nat) : FnR Tryd.prog 75 [is (.slice A xs.length c)] [row (.slice A xs.length c) e mstrO.toTy xs] (fun ψ Δ => ∃ A' c', ψ = is (.slice A' xs.length c') ∧ Δ = [row (.slice A' xs.length c') 79 mstrO.toTy xs, row (.slice A xs.length c) e mstrO.toTy xs]) := by
  refine FnR.mk' 8 Tryd.func75 rfl rfl rfl rfl fun w0 H0 => ?_
  refine J.rowNil (List.Perm.refl _) (fun hA hn hc hx => ?_) (fun a hA => ?_)
  · subst hA; subst hx; subst hc
    refine J.nilrow 79 mstrO.toTy ?_
    repeat (first | ((first | (apply Lq.s; rfl) | apply PRun.s | (apply Lq.run; rfl; rfl; rfl; exact bsB) | (apply PRun.run; rfl; rfl; exact bsB)); first | (apply op_slnil; rfl; rfl) | (exact bsO)) | apply J.seq | apply E.next | apply J.lq | apply Lq.nil | apply PRun.nil | apply J.block | apply E.in_normal | apply J.skip | (apply Lq.store; rfl; rfl; exact bsP; exact bsS; rfl; rfl) | (apply PRun.al; rfl) | (apply Lq.al; rfl; rfl; intro b) | (apply Open.cons; intro b) | apply Open.nil | (apply Lq.pass; rfl; rfl; rfl) | (apply PRun.pass; rfl; rfl) | (apply Lq.skip; rfl; rfl; rfl; exact bsB) | (apply PRun.skip; rfl; rfl; exact bsB) | (apply J.drawN; exact mixed; kernel_rfl) | (apply J.cond_t; rfl) | (apply J.cond_f; rfl) | apply J.exit | apply E.then_exit | apply E.in_exit | (apply E.in_other; rfl))
    (refine J.ret ?_; (repeat (first | refine E.then_ret ?_ | refine E.in_ret ?_)))
    exact E.retR1 (G := []) rfl rfl ⟨none, 0, rfl, rfl⟩ (List.Perm.refl _)
  · subst hA
    repeat (first | ((first | (apply Lq.s; rfl) | apply PRun.s | (apply Lq.run; rfl; rfl; rfl; exact bsB) | (apply PRun.run; rfl; rfl; exact bsB)); first | (apply op_slnil; rfl; rfl) | (exact bsO)) | apply J.seq | apply E.next | apply J.lq | apply Lq.nil | apply PRun.nil | apply J.block | apply E.in_normal | apply J.skip | (apply Lq.store; rfl; rfl; exact bsP; exact bsS; rfl; rfl) | (apply PRun.al; rfl) | (apply Lq.al; rfl; rfl; intro b) | (apply Open.cons; intro b) | apply Open.nil | (apply Lq.pass; rfl; rfl; rfl) | (apply PRun.pass; rfl; rfl) | (apply Lq.skip; rfl; rfl; rfl; exact bsB) | (apply PRun.skip; rfl; rfl; exact bsB) | (apply J.drawN; exact mixed; kernel_rfl) | (apply J.cond_t; rfl) | (apply J.cond_f; rfl) | apply J.exit | apply E.then_exit | apply E.in_exit | (apply E.in_other; rfl))
    (apply Lq.bsl (T := mstrO) (xs := []); rfl; (repeat (first | exact PO.nil _ | (apply PO.cons; rfl))); rfl; rfl; rfl)
    intro A1 c1
    repeat (first | ((first | (apply Lq.s; rfl) | apply PRun.s | (apply Lq.run; rfl; rfl; rfl; exact bsB) | (apply PRun.run; rfl; rfl; exact bsB)); first | (exact bsO)) | apply J.seq | apply E.next | apply J.lq | apply Lq.nil | apply PRun.nil | apply J.block | apply E.in_normal | apply J.skip | (apply Lq.store; rfl; rfl; exact bsP; exact bsS; rfl; rfl) | (apply PRun.al; rfl) | (apply Lq.al; rfl; rfl; intro b) | (apply Open.cons; intro b) | apply Open.nil | (apply Lq.pass; rfl; rfl; rfl) | (apply PRun.pass; rfl; rfl) | (apply Lq.skip; rfl; rfl; rfl; exact bsB) | (apply PRun.skip; rfl; rfl; exact bsB) | (apply J.drawN; exact mixed; kernel_rfl) | (apply J.cond_t; rfl) | (apply J.cond_f; rfl) | apply J.exit | apply E.then_exit | apply E.in_exit | (apply E.in_other; rfl))
    (apply Lq.append (T := mstrO) (xs := []) (ys := xs); rfl; exact List.Perm.refl _; (apply From.row; rfl; exact List.mem_cons_of_mem _ List.mem_cons_self); rfl; rfl; rfl; (show 0 + _ ≤ maxLen; unfold maxLen; omega); (show (0 + _) * 72 ≤ _; omega))
    intro A2 c2
    rw [List.nil_append]
    repeat (first | ((first | (apply Lq.s; rfl) | apply PRun.s | (apply Lq.run; rfl; rfl; rfl; exact bsB) | (apply PRun.run; rfl; rfl; exact bsB)); first | (exact bsO)) | apply J.seq | apply E.next | apply J.lq | apply Lq.nil | apply PRun.nil | apply J.block | apply E.in_normal | apply J.skip | (apply Lq.store; rfl; rfl; exact bsP; exact bsS; rfl; rfl) | (apply PRun.al; rfl) | (apply Lq.al; rfl; rfl; intro b) | (apply Open.cons; intro b) | apply Open.nil | (apply Lq.pass; rfl; rfl; rfl) | (apply PRun.pass; rfl; rfl) | (apply Lq.skip; rfl; rfl; rfl; exact bsB) | (apply PRun.skip; rfl; rfl; exact bsB) | (apply J.drawN; exact mixed; kernel_rfl) | (apply J.cond_t; rfl) | (apply J.cond_f; rfl) | apply J.exit | apply E.then_exit | apply E.in_exit | (apply E.in_other; rfl))
    (refine J.ret ?_; (repeat (first | refine E.then_ret ?_ | refine E.in_ret ?_)))
    exact E.retR1 (G := []) rfl rfl ⟨A2, c2, rfl, rfl⟩ (List.Perm.refl _)
end Go.Proofs.YtljbbajelkkafaaDoor.L
