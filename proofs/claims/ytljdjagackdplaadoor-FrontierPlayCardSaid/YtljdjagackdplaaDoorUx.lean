/-
  A leaf that an edge of the greatest count is offered.
-/
import Derived.Test.YtljdjagackdplaaDoorUw
namespace Go.Proofs.YtljdjagackdplaaDoor.L
open Go
set_option linter.unusedSectionVars false
variable [Globs] [Has_sha_table] [Has_sha_begin]
set_option linter.unusedVariables false
set_option linter.unusedVariables false
set_option linter.unusedSimpArgs false
attribute [local irreducible] J Lq E OpP PRun is any agg tup ptr sl PRunW OpE PRunV OpV star
attribute [local irreducible] up2 mroot nodeH leafH emptyH shaH ownAt row someL leafOf splitZ split rv join2 edge rootE o1 o2 o3
theorem fappend_max (b : Nat) (hs : List Hash) (A : Option Addr) (c : Nat) (h : Hash) : FnR Tryd.prog 25 [is (.pointer (some ⟨b, 0, none⟩)), hashT.val h] (frL b hs 9223372036854775807 A c) (fun ψ Δ => ψ = is (.int .i64 3) ∧ Δ = frL b hs 9223372036854775807 A c) := by
  refine FnR.mk' 47 Tryd.func25 rfl rfl rfl rfl fun w0 H0 => ?_
  unfold frL
  repeat (first | ((first | (apply Lq.s; rfl) | apply PRun.s | (apply Lq.run; rfl; rfl; rfl; exact bsB) | (apply PRun.run; rfl; rfl; exact bsB)); first | (apply op_box hashT; rfl) | (apply op_ocell; rfl; exact bsM; rfl) | (apply op_slen; rfl) | (apply op_peq; rfl; rfl) | (exact bsO)) | apply J.seq | apply E.next | apply J.lq | apply Lq.nil | apply PRun.nil | apply J.block | apply E.in_normal | apply J.skip | (apply Lq.store; rfl; rfl; exact bsP; exact bsS; rfl; rfl) | (apply PRun.al; rfl) | (apply Lq.al; rfl; rfl; intro b) | (apply Open.cons; intro b) | apply Open.nil | (apply Lq.pass; rfl; rfl; rfl) | (apply PRun.pass; rfl; rfl) | (apply Lq.skip; rfl; rfl; rfl; exact bsB) | (apply PRun.skip; rfl; rfl; exact bsB) | (apply J.cond_t; rfl) | (apply J.cond_f; rfl) | apply J.exit | apply E.then_exit | apply E.in_exit | (apply E.in_other; rfl))
  (refine J.ret ?_; (repeat (first | refine E.then_ret ?_ | refine E.in_ret ?_)))
  exact E.retR1 (G := []) rfl rfl ⟨rfl, rfl⟩ (List.Perm.refl _)
theorem fappendMaxV (fb : Nat) (hs : List Hash) (h : Hash) : FnV Tryd.prog 25 [is (.pointer (some ⟨fb, 0, none⟩)), hashT.val h] (frV fb hs 9223372036854775807) (is (.int .i64 3)) (frV fb hs 9223372036854775807) := by
  rintro _ ⟨A, c, rfl⟩
  exact (fappend_max fb hs A c h).to fun ψ Δ h => ⟨h.1, A, c, h.2⟩
end Go.Proofs.YtljdjagackdplaaDoor.L
