/-
  The hash of a text, walked.
-/
import Derived.Test.YtljdjagackdplaaDoorSf
namespace Go.Proofs.YtljdjagackdplaaDoor.L
open Go
set_option linter.unusedSectionVars false
variable [Globs] [Has_sha_table] [Has_sha_begin]
theorem Lq.nilrow {α : Type} {C : Cx} {Γ : Env} {Δ : List Res} {ops : Array Oper} {rest : List Oper} {Q : Exit → Act → World → Prop} (e : TypeId) (T : Ty α) (k : Lq C Γ (row (.slice none 0 0) e T [] :: Δ) ops rest Q) : Lq C Γ Δ ops rest Q := fun H a w S => k H a w (S.gain row_nil (fun b hb => by cases hb))
theorem run_nil (st : List UInt32) : run st [] = (st, []) := rfl
theorem run_left_lt (st : List UInt32) (l : List UInt8) : (run st l).2.length < 64 := by
  unfold run; rw [absorb_left _ _ _ (Nat.le_refl _)]; omega
theorem run_left (st : List UInt32) (l : List UInt8) : (run st l).2.length = l.length % 64 := by
  unfold run; rw [absorb_left _ _ _ (Nat.le_refl _)]
/-- What the writer tells behind s is the hash of s. -/
theorem sha_of (s : List UInt8) : digest (run (run bgn s).1 ((run bgn s).2 ++ padOf (run bgn s).2.length s.length)).1 = sha s := by
  unfold sha pad padOf
  rw [run_left]
  conv => rhs; rw [run_app]
theorem digest_len {st : List UInt32} (h : st.length = 8) : (digest st).length = 32 := by
  obtain ⟨a, b, c, d, e, f, g, i, rfl⟩ := eight h
  rfl
theorem sha_len (s : List UInt8) : (sha s).length = 32 := digest_len (run_len bgn_len)
def shaH (s : List UInt8) : Hash := ⟨sha s, sha_len s⟩
set_option linter.unusedVariables false
set_option linter.unusedSimpArgs false
attribute [local irreducible] J Lq E OpP PRun is any agg tup ptr sl
attribute [local irreducible] block row run sha ownAt
end Go.Proofs.YtljdjagackdplaaDoor.L
