/-
  The law RootsApart, walked.
-/
import Derived.Test.YtafbkgijahinkaaDoorTf
namespace Go.Proofs.YtafbkgijahinkaaDoor.L
open Go
set_option linter.unusedSectionVars false
variable [Globs] [Has_sha_table] [Has_sha_begin]
theorem mroot_len1 {a : List Hash} {x : Hash} (hl : a.length = 1) (h : a[0]? = some x) : mroot a = x := by
  obtain ⟨y, rfl⟩ := List.length_eq_one_iff.1 hl
  rw [mroot_one]
  simpa using h
theorem op_oloadP {P : Program} {Γ : Env} {Δ : List Res} {d : Option Nat} {ty : Nat} {pos : String} {af : Array Edge} {g : Option (Nat × Bool)} {x : Arr Hash 2} {b e t : Nat} {φs : List Pr} {p : Operand} (h : opd Γ p = some (is (.pointer (some ⟨b, 0, none⟩)))) (hm : own b e φs ∈ Δ) [TSz P t 64] [TAg P t true] (hx : φs = pairT.cells x) : OpP P Γ Δ ⟨d, .load t p, ty, pos, af, g⟩ (pairT.val x) := by
  haveI : TSz P t pairT.sz := (inferInstance : TSz P t 64)
  haveI : TAg P t pairT.ag := (inferInstance : TAg P t true)
  refine op_oload pairT h hm ?_
  rw [hx, List.drop_zero]
  exact List.take_of_length_le (Nat.le_of_eq (pairT.len x))
set_option linter.unusedVariables false
set_option linter.unusedSimpArgs false
attribute [local irreducible] J Lq E OpP PRun is any agg tup ptr sl PRunW OpE
attribute [local irreducible] up2 mroot nodeH leafH emptyH shaH ownAt row someL leafOf splitZ split pairT
theorem pair_at0 (p q : Hash) : ((pairT.cells ⟨[p, q], rfl⟩).drop (0 + (0 : Int).toNat * 32)).take 32 = hashT.cells p := by
  unfold pairT
  exact at_flat0 hashT.toTy (xs := [p, q]) (k := 0) rfl
theorem pair_at1 (p q : Hash) : ((pairT.cells ⟨[p, q], rfl⟩).drop (0 + (1 : Int).toNat * 32)).take 32 = hashT.cells q := by
  unfold pairT
  exact at_flat0 hashT.toTy (xs := [p, q]) (k := 1) rfl
theorem pair_eq {p q p' q' : Hash} : (⟨[p, q], rfl⟩ : Arr Hash 2) = ⟨[p', q'], rfl⟩ ↔ p = p' ∧ q = q' := by
  rw [Subtype.mk.injEq, List.cons.injEq, List.cons.injEq]
  exact ⟨fun h => ⟨h.1, h.2.1⟩, fun h => ⟨h.1, h.2, rfl⟩⟩
theorem eqd_pair {P : Program} {t e f : Nat} [TArr P t 2 e] [TSz P e 32] [TAg P e true] [TArr P e 32 f] [TSz P f 1] [TAg P f false] [TInt P f .u8] : Eqd P t pairT 3 := by
  unfold pairT
  haveI : TSz P f u8T.sz := (inferInstance : TSz P f 1)
  haveI : TAg P f u8T.ag := (inferInstance : TAg P f false)
  haveI : TSz P e hashT.sz := (inferInstance : TSz P e 32)
  haveI : TAg P e hashT.ag := (inferInstance : TAg P e true)
  exact eqd_arr (T := hashT) (eqd_arr eqd_u8)
theorem pair_ag : pairT.ag = true := by unfold pairT; rfl
theorem pair_sz : pairT.sz = 64 := by unfold pairT; rfl
end Go.Proofs.YtafbkgijahinkaaDoor.L
