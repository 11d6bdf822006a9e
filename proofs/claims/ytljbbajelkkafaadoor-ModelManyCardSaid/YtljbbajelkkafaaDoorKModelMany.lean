/-
  ModelMany: for every input the law returns true, and each argument reads as it read before. Condition: the listed package variables (sealingwax/sealingwaxref02.k, sealingwax/sha.table, sealingwax/sha.begin) hold what the program's text lays them to hold; the card ties this to the text. No other condition.
-/
import Derived.Test.YtljbbajelkkafaaDoorRows
import Derived.Test.YtljbbajelkkafaaDoorLr
import Derived.Test.YtljbbajelkkafaaDoorMzg
import Derived.Carry
import Derived.Test.YtljbbajelkkafaaDoorLy
import Derived.Test.YtljbbajelkkafaaDoorTie
import Derived.Test.YtljbbajelkkafaaDoorCards
import Derived.SevenTiedAt
namespace Go.Proofs.YtljbbajelkkafaaDoor.modelMany
open Go Go.RowKit Go.ChangeShapes Go.WideShapes Go.ChangeAt
set_option linter.unusedVariables false

theorem own : ownKnob Tryd.prog.godebug = none := by kernel_rfl
theorem laid : laidOutB Tryd.prog = true := by kernel_rfl
instance : L.Globs := ⟨[(1, L.ref02_k.map fun (m : Nat) => Value.int .u32 (m : Int)), (2, L.sha_table.map fun (m : Nat) => Value.int .u32 (m : Int)), (0, L.sha_begin.map fun (m : Nat) => Value.int .u32 (m : Int))]⟩
instance : L.Has_ref02_k := ⟨by unfold L.globs L.Globs.l instGlobs; simp⟩
instance : L.Has_sha_table := ⟨by unfold L.globs L.Globs.l instGlobs; simp⟩
instance : L.Has_sha_begin := ⟨by unfold L.globs L.Globs.l instGlobs; simp⟩
set_option maxRecDepth 100000 in
theorem tied_ref02_k : L.Tied Tryd.prog ("sealingwax/sealingwaxref02.k", Rows.laid_sealingwax_sealingwaxref02_k) (1, L.ref02_k.map fun (m : Nat) => Value.int .u32 (m : Int)) := ⟨150, 64, 119, .u32, L.ref02_k, by kernel_rfl, by kernel_rfl, Tryd.underlying150, Tryd.underlying119, by kernel_rfl, by kernel_rfl, rfl⟩
theorem tied_sha_table : L.Tied Tryd.prog ("sealingwax/sha.table", Rows.laid_sealingwax_sha_table) (2, L.sha_table.map fun (m : Nat) => Value.int .u32 (m : Int)) := ⟨150, 64, 119, .u32, L.sha_table, by kernel_rfl, by kernel_rfl, Tryd.underlying150, Tryd.underlying119, by kernel_rfl, by kernel_rfl, rfl⟩
theorem tied_sha_begin : L.Tied Tryd.prog ("sealingwax/sha.begin", Rows.laid_sealingwax_sha_begin) (0, L.sha_begin.map fun (m : Nat) => Value.int .u32 (m : Int)) := ⟨120, 8, 119, .u32, L.sha_begin, by kernel_rfl, by kernel_rfl, Tryd.underlying120, Tryd.underlying119, by kernel_rfl, by kernel_rfl, rfl⟩
theorem gk {W : World} (h : laidMetH Tryd.prog Rows.modelManyRow.laid W) : L.Gk (L.fullH W) := L.gk_met (by kernel_rfl) h ⟨tied_ref02_k, tied_sha_table, tied_sha_begin, trivial⟩
/-- The door's own heap meets the condition. -/
theorem door_met (os : Os) (args : Array Value) : laidMetH Tryd.prog Rows.modelManyRow.laid ((World.doorLaid Tryd.prog 4000 os).forCall (fun _ _ => 0) ⟨#[], args, []⟩).memory :=
  laidMetH_of_parts3 (fuel := 8) (laidMet_of_run' 8 (by kernel_rfl) (by kernel_rfl)) (by kernel_rfl) (by kernel_rfl)
set_option maxRecDepth 100000 in
theorem lifted (os : Os) (started : os.Started) (H : Type) (enc : TypeId × Value → H) :
    ReturnsInHanded {} Tryd.checked os 6 .any (fun w args => (Rows.modelManySpec.pre enc Tryd.prog Tryd.f6 Rows.modelManyRow.domain false w args ∧ laidMetH Tryd.prog Rows.modelManyRow.laid w) ∧ sizedMet enc Tryd.prog Tryd.f6 (OpenSpec.ofChange Rows.modelManySpec) false w args) (Rows.modelManySpec.post enc Tryd.prog Tryd.f6 false true false false) := by
  refine returnsInHanded_of_change_and (C := Tryd.checked) (X := fun w _ => laidMetH Tryd.prog Rows.modelManyRow.laid w) (fun _ _ _ hh h => h.of_heap hh) own started (by kernel_rfl) Tryd.func6
    (ChangeSpec.witness_shaped (enc := enc) (C := Tryd.checked) (os := os) (X := fun w _ => laidMetH Tryd.prog Rows.modelManyRow.laid w) false (World.doorLaid Tryd.prog 4000 os) #[.int .u8 0] 8 rfl (World.shaped_of_RefB (by kernel_rfl) (by kernel_rfl)) (by kernel_rfl) (by kernel_rfl) (by kernel_rfl) (door_met os _)) ?_
  intro W base args ds gs before hval0 hW hcnd _ hL _
  have hval : ∀ (j : Nat) t v, Tryd.f6.params[j]? = some t → args[j]? = some v → Value.okWide Tryd.prog W .any base t v := hval0
  have hW' := hW
  obtain ⟨p, q, hA0, hV, rfl, hfz, hnd⟩ := hW
  have hA : DataW.TrodAll enc Tryd.prog W 0 (fun _ => true) true Tryd.f6.params.toList args.toList ds p := hA0
  rw [Tryd.params6] at hA hval
  have hA1 := hA
  obtain ⟨v0, vs0, d0, ds0, p0, q0, hargs, rfl, rfl, h0, r0⟩ := trodAll_cons hA
  obtain ⟨rfl, rfl, rfl⟩ := trodAll_nil r0
  obtain rfl : args = #[v0] := by cases args; simp_all
  obtain ⟨rfl, rfl⟩ := trodVars_none hV
  obtain ⟨x0, hx0, hv0⟩ := L.Rd.sc (P := Tryd.prog) (t := 5) (open L in Rd.u8) rfl (hval 0 5 v0 rfl rfl) h0
  clear hA0 hval0
  have hcall := (L.modelMany x0 hx0).run (L.fullH W) W [v0] (L.sat_full W (gk hL)) ⟨hv0, trivial⟩
  refine hcall.mono fun e W' ⟨v, H', he, hE, hr⟩ => ?_
  have hr : v = .bool true := hr
  subst he
  subst hr
  have hb : Below W.heap.size W W' := hE.fr.below
  have hlt := fun x hx => hW'.lt x hx
  exact ⟨_, rfl, L.post_of_below (pv := []) hW' (fun _ _ _ => trodAll_cons_mk (shut_bool Tryd.underlying4 _) trodAll_mk0) (fun sp hsp => L.trodAll_stays laid hb _ _ _ _ (by kernel_rfl) hA1 (fun x hx => hlt x (List.mem_append_left _ hx)) (fun x hx => hsp x (List.mem_append_left _ hx))) (fun _ _ => rfl) rfl hb (ok_one (by kernel_rfl) rfl (okWide_bool_mk Tryd.underlying4 _))⟩

theorem over : Rows.modelManyRow.holds Tryd.pinned (OpenSpec.ofChange Rows.modelManySpec) :=
  OpenClaim.holds_of_wide 6 Tryd.f6 rfl rfl rfl rfl rfl rfl rfl ⟨rfl, rfl, rfl, rfl, rfl⟩ rfl rfl rfl rfl rfl (by kernel_rfl) Tryd.func6 (by kernel_rfl)
    (of_decide_eq_true (by kernel_rfl)) (by unfold Func.isWrapper; first | (rw [if_pos (by decide +kernel)]; kernel_rfl) | (rw [if_neg (by decide +kernel)]; exact ⟨rfl, rfl⟩))
    (fun os started H enc _ => lifted os started H enc)

theorem proved : Rows.ModelManyCardSaid :=
  Claim7.holds_tied_plain_at .later [] [.data, .data, .data] true (true, "5fd865d2b2fe0d3072cbdf75eca7729a79b8a129e701582240c78119c42abe62") false
    over (fun _ h => by cases h) (by kernel_rfl) (fun _ h => by cases h) modelMany_row_tie rfl ⟨rfl, rfl⟩ (by kernel_rfl) rfl
    (fun f fn hf hfn => by
      obtain rfl : f = 6 := Option.some.inj ((show Tryd.prog.funcNamed "sealingwax/sealingwaxlaw26.ModelMany" = some 6 by kernel_rfl).symm.trans hf) |>.symm
      obtain rfl : fn = Tryd.f6 := (Option.some.inj (Tryd.func6.symm.trans hfn)).symm
      exact ⟨by kernel_rfl, fun j t ht => by
        rw [Tryd.params6] at ht
        have hm : t ∈ [5] := by simpa using Array.mem_of_getElem? ht
        have hall : ([5].all fun u => !Tryd.prog.wantsStandIn u) = true := by kernel_rfl
        exact (show Tryd.prog.wantsStandIn t = false by simpa using List.all_eq_true.1 hall t hm)⟩)
    (by kernel_rfl)
#print axioms proved
end Go.Proofs.YtljbbajelkkafaaDoor.modelMany
