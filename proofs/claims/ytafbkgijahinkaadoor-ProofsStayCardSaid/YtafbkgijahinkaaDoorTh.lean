/-
  The document's root, and the law RootsTell, walked.
-/
import Derived.Test.YtafbkgijahinkaaDoorTg
import Derived.Test.YtafbkgijahinkaaDoorVd
namespace Go.Proofs.YtafbkgijahinkaaDoor.L
open Go
set_option linter.unusedSectionVars false
variable [Globs] [Has_sha_table] [Has_sha_begin]
theorem Fn.weak {P : Program} {f : Nat} {φs φs' : List Pr} {ψ : Pr} (F : Fn P f φs ψ) (h : ∀ H vs, All2 (fun φ v => φ.h H v) φs' vs → All2 (fun φ v => φ.h H v) φs vs) : Fn P f φs' ψ :=
  ⟨F.ent, fun H w vs hs hv => F.run H w vs hs (h H vs hv)⟩
/-- A slice of the first hi elements of a row that is known for good. -/
def slw {α : Type} (T : Ty α) (xs : List α) (hi : Nat) : Pr := ⟨fun H v => ∃ a cap, v = .slice a hi cap ∧ hi ≤ xs.length ∧ xs.length ≤ cap ∧ cap ≤ maxLen ∧ (a = none → cap = 0) ∧ (0 < xs.length → ∃ b o, a = some ⟨b, o, none⟩ ∧ ∀ i φ, (flat T xs)[i]? = some φ → ∃ c, H b (o + i) = some c ∧ φ.c H c),
  fun hle ⟨a, cap, hv, h0, h1, h2, h3, h⟩ => ⟨a, cap, hv, h0, h1, h2, h3, fun hn => let ⟨b, o, ha, hc⟩ := h hn; ⟨b, o, ha, fun i φ hi => let ⟨c, hc, hφ⟩ := hc i φ hi; ⟨c, hle _ _ _ hc, Pr.c_mono hle hφ⟩⟩⟩⟩
theorem slw_sl {α : Type} {T : Ty α} {xs ys : List α} {hi : Nat} (he : xs.take hi = ys) (H : IH) (v : Value) (h : (slw T xs hi).h H v) : (sl T ys).h H v := by
  obtain ⟨a, cap, rfl, h0, h1, h2, h3, h4⟩ := h
  subst he
  have hl : (xs.take hi).length = hi := by rw [List.length_take]; omega
  refine ⟨a, cap, by rw [hl], by omega, h2, h3, fun hp => ?_⟩
  obtain ⟨b, o, ha, hc⟩ := h4 (by omega)
  exact ⟨b, o, ha, fun i φ hi => hc i φ (flat_take T xs _ i φ hi)⟩
section
variable {P : Program} {Γ : Env} {Δ : List Res} {d : Option Nat} {ty : Nat} {pos : String} {af : Array Edge} {g : Option (Nat × Bool)} {x y : Operand} {t yt : Nat} {α : Type}
theorem op_ksl_w {T : Ty α} {xs : List α} {e sz hi : Nat} {k : IntKind} (h : opd Γ x = some (sl T xs)) (hh : opd Γ y = some (is (.int k (hi : Int)))) [ht : TSl P t e] [TSz P e sz] (h1 : hi ≤ xs.length) : OpP P Γ Δ ⟨d, .slice t x none (some y) none, ty, pos, af, g⟩ (slw T xs hi) :=
  OpP.same fun H A w hxx hs => by
    obtain ⟨ad, cap, hv, c1, c2, c3, hel⟩ := hxx x (by simp [Op.operands]) _ h
    have hi' : A.eval y = .int k (hi : Int) := hxx y (by simp [Op.operands]) _ hh
    refine ⟨.slice ad hi cap, ?_, ad, cap, rfl, h1, c1, c2, c3, hel⟩
    simp only [execOp, hv]
    refine run_value ?_
    rw [run_sliceAt_sl ht.h]
    unfold Instr.slice
    refine (run_bind (underlying t) _ w (run_underlying' ht.h)).trans ?_
    simp only [Option.map_some, Option.map_none, hi']
    refine (run_bind (Instr.sliceBounds true xs.length cap none (some (.int k (hi : Int))) none) _ w (a := (0, hi, cap)) (w' := w) ?_).trans ?_
    · unfold Instr.sliceBounds
      simp only [Sem.run_bind, Sem.run_pure, Result.andThen_ok, run_bound (show hi ≤ cap by omega)]
    · refine (run_bind (sizeOf e) _ w (run_sizeOf (t := e) (n := sz))).trans ?_
      show Result.ok (Value.slice (if cap = 0 then ad else ad.map (·.add (0 * sz))) (hi - 0) (cap - 0)) w = _
      rw [Nat.zero_mul, Addr.map_add0, ite_self]
      rfl
/-- Its first hi elements, though it is shorter. -/
theorem op_slw_hi {T : Ty α} {xs : List α} {e sz m hi : Nat} {k : IntKind} (h : opd Γ x = some (slw T xs m)) (hh : opd Γ y = some (is (.int k (hi : Int)))) [ht : TSl P t e] [TSz P e sz] (h1 : hi ≤ xs.length) : OpP P Γ Δ ⟨d, .slice t x none (some y) none, ty, pos, af, g⟩ (sl T (xs.take hi)) :=
  OpP.same fun H A w hxx hs => by
    obtain ⟨ad, cap, hv, c0, c1, c2, c3, hel⟩ := hxx x (by simp [Op.operands]) _ h
    have hi' : A.eval y = .int k (hi : Int) := hxx y (by simp [Op.operands]) _ hh
    refine ⟨.slice ad hi cap, ?_, slw_sl rfl H _ ⟨ad, cap, rfl, h1, c1, c2, c3, hel⟩⟩
    simp only [execOp, hv]
    refine run_value ?_
    rw [run_sliceAt_sl ht.h]
    unfold Instr.slice
    refine (run_bind (underlying t) _ w (run_underlying' ht.h)).trans ?_
    simp only [Option.map_some, Option.map_none, hi']
    refine (run_bind (Instr.sliceBounds true m cap none (some (.int k (hi : Int))) none) _ w (a := (0, hi, cap)) (w' := w) ?_).trans ?_
    · unfold Instr.sliceBounds
      simp only [Sem.run_bind, Sem.run_pure, Result.andThen_ok, run_bound (show hi ≤ cap by omega)]
    · refine (run_bind (sizeOf e) _ w (run_sizeOf (t := e) (n := sz))).trans ?_
      show Result.ok (Value.slice (if cap = 0 then ad else ad.map (·.add (0 * sz))) (hi - 0) (cap - 0)) w = _
      rw [Nat.zero_mul, Addr.map_add0, ite_self]
      rfl
theorem op_slwlen {T : Ty α} {xs : List α} {m e : Nat} (h : opd Γ x = some (slw T xs m)) [ht : TSl P t e] : OpP P Γ Δ ⟨d, .call ⟨.builtin .len, #[x], #[t]⟩, ty, pos, af, g⟩ (is (.int .i64 (m : Int))) :=
  OpP.same fun H a w hx hs => by
    obtain ⟨ad, cap, hv, _⟩ := hx x (by simp [Op.operands, Call.operands]) _ h
    refine ⟨_, run_builtin fun c => ?_, rfl⟩
    refine run_value (x := Builtin.len_ #[t] ty #[a.eval x]) ?_
    rw [hv]
    exact (run_bind (underlying t) _ w (run_underlying' ht.h)).trans rfl
end
def seven : Hash := ⟨7 :: List.replicate 31 0, rfl⟩
set_option linter.unusedVariables false
set_option linter.unusedSimpArgs false
attribute [local irreducible] J Lq E OpP PRun is any agg tup ptr sl PRunW OpE
attribute [local irreducible] up2 mroot nodeH leafH emptyH shaH ownAt row someL leafOf splitZ split slw
section
end
theorem weak2 {φ φ' χ : Pr} (h : ∀ H v, φ'.h H v → φ.h H v) : ∀ H vs, All2 (fun (φ : Pr) v => φ.h H v) [φ', χ] vs → All2 (fun (φ : Pr) v => φ.h H v) [φ, χ] vs
  | H, [v, u], ⟨h1, h2⟩ => ⟨h H v h1, h2⟩
  | _, [], h => h.elim
  | _, [_], ⟨_, h⟩ => h.elim
  | _, _ :: _ :: _ :: _, ⟨_, _, h⟩ => h.elim
end Go.Proofs.YtafbkgijahinkaaDoor.L
