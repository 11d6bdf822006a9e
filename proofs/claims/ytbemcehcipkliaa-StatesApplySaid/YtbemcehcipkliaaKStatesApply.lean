/-
  StatesApply: for every input the law returns true, and each argument reads as it read before. No condition.
-/
import Derived.Test.YtbemcehcipkliaaRows
import Derived.Test.YtbemcehcipkliaaLr
import Derived.Test.YtbemcehcipkliaaOw
import Derived.Carry
namespace Go.Proofs.Ytbemcehcipkliaa.statesApply
open Go Go.RowKit Go.ChangeShapes Go.WideShapes Go.ChangeAt
set_option linter.unusedVariables false

theorem own : ownKnob Try.prog.godebug = none := by kernel_rfl
theorem laid : laidOutB Try.prog = true := by kernel_rfl
instance : L.Globs := ⟨[]⟩
set_option maxRecDepth 100000 in
theorem lifted (os : Os) (started : os.Started) (H : Type) (enc : TypeId × Value → H) :
    ReturnsInHanded {} Try.checked os 3 .any (Rows.statesApplySpec.pre6 enc Try.prog Try.f3 Rows.statesApplyRow.domain false) (Rows.statesApplySpec.post enc Try.prog Try.f3 false true false false) := by
  refine returnsInHanded_of_change (C := Try.checked) own started (by kernel_rfl) Try.func3
    (ChangeSpec.witness6 (enc := enc) (C := Try.checked) false ⟨#[], #[.agg #[.int .i64 0, .slice none 0 0], .slice none 0 0, .agg #[.int .i64 0, .string ⟨#[]⟩]], []⟩ 8 (by kernel_rfl) (by kernel_rfl) (by kernel_rfl) (by kernel_rfl)) ?_
  intro W base args ds gs before hval0 hW hcnd _
  have hval : ∀ (j : Nat) t v, Try.f3.params[j]? = some t → args[j]? = some v → Value.okWide Try.prog W .any base t v := hval0
  have hW' := hW
  obtain ⟨p, q, hA0, hV, rfl, hfz, hnd⟩ := hW
  have hA : DataW.TrodAll enc Try.prog W 0 (fun _ => true) true Try.f3.params.toList args.toList ds p := hA0
  rw [Try.params3] at hA hval
  have hA1 := hA
  obtain ⟨v0, vs0, d0, ds0, p0, q0, hargs, rfl, rfl, h0, r0⟩ := trodAll_cons hA
  obtain ⟨v1, vs1, d1, ds1, p1, q1, rfl, rfl, rfl, h1, r1⟩ := trodAll_cons r0
  obtain ⟨v2, vs2, d2, ds2, p2, q2, rfl, rfl, rfl, h2, r2⟩ := trodAll_cons r1
  obtain ⟨rfl, rfl, rfl⟩ := trodAll_nil r2
  obtain rfl : args = #[v0, v1, v2] := by cases args; simp_all
  obtain ⟨rfl, rfl⟩ := trodVars_none hV
  obtain ⟨x0, hx0, hv0⟩ := L.Rd.agg (P := Try.prog) (t := 24) (open L in (Rd.State Rd.StreamF)) rfl (hval 0 24 v0 rfl rfl) h0
  obtain ⟨x1, hx1, hv1⟩ := L.Rd.sc (P := Try.prog) (t := 25) (open L in (Rd.slice Rd.Entry)) rfl (hval 1 25 v1 rfl rfl) h1
  obtain ⟨x2, hx2, hv2⟩ := L.Rd.agg (P := Try.prog) (t := 27) (open L in Rd.Ask) rfl (hval 2 27 v2 rfl rfl) h2
  clear hA0 hval0
  have hcall := (L.statesApply x0 x1 x2 hx0 hx1 hx2).run (L.fullH W) W [v0, v1, v2] (L.sat_full W (L.gk_none rfl)) ⟨hv0, hv1, hv2, trivial⟩
  refine hcall.mono fun e W' ⟨v, H', he, hE, hr⟩ => ?_
  have hr : v = .bool true := hr
  subst he
  subst hr
  have hb : Below W.heap.size W W' := hE.fr.below
  have hlt := fun x hx => hW'.lt x hx
  exact ⟨_, rfl, L.post_of_below (pv := []) hW' (fun _ _ _ => trodAll_cons_mk (shut_bool Try.underlying4 _) trodAll_mk0) (fun sp hsp => L.trodAll_stays laid hb _ _ _ _ (by kernel_rfl) hA1 (fun x hx => hlt x (List.mem_append_left _ hx)) (fun x hx => hsp x (List.mem_append_left _ hx))) (fun _ _ => rfl) rfl hb (ok_one (by kernel_rfl) rfl (okWide_bool_mk Try.underlying4 _))⟩

theorem over : Rows.statesApplyRow.holds Try.pinned (OpenSpec.ofChange Rows.statesApplySpec) :=
  OpenClaim.holds_of_wide 3 Try.f3 rfl rfl rfl rfl rfl rfl rfl ⟨rfl, rfl, rfl, rfl, rfl⟩ rfl rfl rfl rfl rfl (by kernel_rfl) Try.func3 (by kernel_rfl)
    (of_decide_eq_true (by kernel_rfl)) (by unfold Func.isWrapper; first | (rw [if_pos (by decide +kernel)]; kernel_rfl) | (rw [if_neg (by decide +kernel)]; exact ⟨rfl, rfl⟩))
    (fun os started H enc _ => lifted os started H enc)

theorem proved : Rows.StatesApplySaid := over
#print axioms proved
end Go.Proofs.Ytbemcehcipkliaa.statesApply
