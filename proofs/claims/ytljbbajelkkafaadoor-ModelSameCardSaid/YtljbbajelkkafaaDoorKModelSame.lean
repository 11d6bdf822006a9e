/-
  ModelSame: for every input the law returns true, and each argument reads as it read before. Condition: the listed package variables (sealingwax/sha.table, sealingwax/sha.begin) hold what the program's text lays them to hold; the card ties this to the text. No other condition.
-/
import Derived.Test.YtljbbajelkkafaaDoorRows
import Derived.Test.YtljbbajelkkafaaDoorLr
import Derived.Test.YtljbbajelkkafaaDoorMzk
import Derived.Carry
import Derived.Test.YtljbbajelkkafaaDoorLy
import Derived.Test.YtljbbajelkkafaaDoorTie
import Derived.Test.YtljbbajelkkafaaDoorCards
import Derived.SevenTiedAt
namespace Go.Proofs.YtljbbajelkkafaaDoor.modelSame
open Go Go.RowKit Go.ChangeShapes Go.WideShapes Go.ChangeAt
set_option linter.unusedVariables false

theorem own : ownKnob Tryd.prog.godebug = none := by kernel_rfl
theorem laid : laidOutB Tryd.prog = true := by kernel_rfl
instance : L.Globs := ⟨[(2, L.sha_table.map fun (m : Nat) => Value.int .u32 (m : Int)), (0, L.sha_begin.map fun (m : Nat) => Value.int .u32 (m : Int))]⟩
instance : L.Has_sha_table := ⟨by unfold L.globs L.Globs.l instGlobs; simp⟩
instance : L.Has_sha_begin := ⟨by unfold L.globs L.Globs.l instGlobs; simp⟩
set_option maxRecDepth 100000 in
theorem tied_sha_table : L.Tied Tryd.prog ("sealingwax/sha.table", Rows.laid_sealingwax_sha_table) (2, L.sha_table.map fun (m : Nat) => Value.int .u32 (m : Int)) := ⟨150, 64, 119, .u32, L.sha_table, by kernel_rfl, by kernel_rfl, Tryd.underlying150, Tryd.underlying119, by kernel_rfl, by kernel_rfl, rfl⟩
theorem tied_sha_begin : L.Tied Tryd.prog ("sealingwax/sha.begin", Rows.laid_sealingwax_sha_begin) (0, L.sha_begin.map fun (m : Nat) => Value.int .u32 (m : Int)) := ⟨120, 8, 119, .u32, L.sha_begin, by kernel_rfl, by kernel_rfl, Tryd.underlying120, Tryd.underlying119, by kernel_rfl, by kernel_rfl, rfl⟩
theorem gk {W : World} (h : laidMetH Tryd.prog Rows.modelSameRow.laid W) : L.Gk (L.fullH W) := L.gk_met (by kernel_rfl) h ⟨tied_sha_table, tied_sha_begin, trivial⟩
/-- The door's own heap meets the condition. -/
theorem door_met (os : Os) (args : Array Value) : laidMetH Tryd.prog Rows.modelSameRow.laid ((World.doorLaid Tryd.prog 4000 os).forCall (fun _ _ => 0) ⟨#[], args, []⟩).memory :=
  laidMetH_of_parts3 (fuel := 8) (laidMet_of_run' 8 (by kernel_rfl) (by kernel_rfl)) (by kernel_rfl) (by kernel_rfl)
set_option maxRecDepth 100000 in
theorem lifted (os : Os) (started : os.Started) (H : Type) (enc : TypeId × Value → H) :
    ReturnsInHanded {} Tryd.checked os 8 .any (fun w args => (Rows.modelSameSpec.pre enc Tryd.prog Tryd.f8 Rows.modelSameRow.domain false w args ∧ laidMetH Tryd.prog Rows.modelSameRow.laid w) ∧ sizedMet enc Tryd.prog Tryd.f8 (OpenSpec.ofChange Rows.modelSameSpec) false w args) (Rows.modelSameSpec.post enc Tryd.prog Tryd.f8 false true false false) := by
  refine returnsInHanded_of_change_and (C := Tryd.checked) (X := fun w _ => laidMetH Tryd.prog Rows.modelSameRow.laid w) (fun _ _ _ hh h => h.of_heap hh) own started (by kernel_rfl) Tryd.func8
    (ChangeSpec.witness_shaped (enc := enc) (C := Tryd.checked) (os := os) (X := fun w _ => laidMetH Tryd.prog Rows.modelSameRow.laid w) false (World.doorLaid Tryd.prog 4000 os) #[.agg #[.int .i64 0, .slice none 0 0], .agg #[.int .i64 0, .slice none 0 0]] 8 rfl (World.shaped_of_RefB (by kernel_rfl) (by kernel_rfl)) (by kernel_rfl) (by kernel_rfl) (by kernel_rfl) (door_met os _)) ?_
  intro W base args ds gs before hval0 hW hcnd hsz hL _
  have hval : ∀ (j : Nat) t v, Tryd.f8.params[j]? = some t → args[j]? = some v → Value.okWide Tryd.prog W .any base t v := hval0
  have hW' := hW
  obtain ⟨p, q, hA0, hV, rfl, hfz, hnd⟩ := hW
  have hA : DataW.TrodAll enc Tryd.prog W 0 (fun _ => true) true Tryd.f8.params.toList args.toList ds p := hA0
  rw [Tryd.params8] at hA hval
  have hA1 := hA
  obtain ⟨v0, vs0, d0, ds0, p0, q0, hargs, rfl, rfl, h0, r0⟩ := trodAll_cons hA
  obtain ⟨v1, vs1, d1, ds1, p1, q1, rfl, rfl, rfl, h1, r1⟩ := trodAll_cons r0
  obtain ⟨rfl, rfl, rfl⟩ := trodAll_nil r1
  obtain rfl : args = #[v0, v1] := by cases args; simp_all
  obtain ⟨rfl, rfl⟩ := trodVars_none hV
  rw [Tryd.params8] at hsz
  obtain ⟨hz0, hsz⟩ := L.weights_cons (e := 45) hsz
  obtain ⟨hz1, hsz⟩ := L.weights_cons (e := 45) hsz
  obtain ⟨x0, hx0, hv0⟩ := L.RdW.agg (P := Tryd.prog) (t := 45) (open L in (RdW.View (RdW.Seen Rd.RecV))) rfl (hval 0 45 v0 rfl rfl) h0 hz0
  obtain ⟨x1, hx1, hv1⟩ := L.RdW.agg (P := Tryd.prog) (t := 45) (open L in (RdW.View (RdW.Seen Rd.RecV))) rfl (hval 1 45 v1 rfl rfl) h1 hz1
  clear hA0 hval0
  have hcall := (L.modelSame x0 x1 hx0 hx1).run (L.fullH W) W [v0, v1] (L.sat_full W (gk hL)) ⟨hv0, hv1, trivial⟩
  refine hcall.mono fun e W' ⟨v, H', he, hE, hr⟩ => ?_
  have hr : v = .bool true := hr
  subst he
  subst hr
  have hb : Below W.heap.size W W' := hE.fr.below
  have hlt := fun x hx => hW'.lt x hx
  exact ⟨_, rfl, L.post_of_below (pv := []) hW' (fun _ _ _ => trodAll_cons_mk (shut_bool Tryd.underlying4 _) trodAll_mk0) (fun sp hsp => L.trodAll_stays laid hb _ _ _ _ (by kernel_rfl) hA1 (fun x hx => hlt x (List.mem_append_left _ hx)) (fun x hx => hsp x (List.mem_append_left _ hx))) (fun _ _ => rfl) rfl hb (ok_one (by kernel_rfl) rfl (okWide_bool_mk Tryd.underlying4 _))⟩

theorem over : Rows.modelSameRow.holds Tryd.pinned (OpenSpec.ofChange Rows.modelSameSpec) :=
  OpenClaim.holds_of_wide 8 Tryd.f8 rfl rfl rfl rfl rfl rfl rfl ⟨rfl, rfl, rfl, rfl, rfl⟩ rfl rfl rfl rfl rfl (by kernel_rfl) Tryd.func8 (by kernel_rfl)
    (of_decide_eq_true (by kernel_rfl)) (by unfold Func.isWrapper; first | (rw [if_pos (by decide +kernel)]; kernel_rfl) | (rw [if_neg (by decide +kernel)]; exact ⟨rfl, rfl⟩))
    (fun os started H enc _ => lifted os started H enc)

theorem proved : Rows.ModelSameCardSaid :=
  Claim7.holds_tied_plain_at .later [] [.data, .data] true (true, "5fd865d2b2fe0d3072cbdf75eca7729a79b8a129e701582240c78119c42abe62") false
    over (fun _ h => by cases h) (by kernel_rfl) (fun _ h => by cases h) modelSame_row_tie rfl ⟨rfl, rfl⟩ (by kernel_rfl) rfl
    (fun f fn hf hfn => by
      obtain rfl : f = 8 := Option.some.inj ((show Tryd.prog.funcNamed "sealingwax/sealingwaxlaw26.ModelSame" = some 8 by kernel_rfl).symm.trans hf) |>.symm
      obtain rfl : fn = Tryd.f8 := (Option.some.inj (Tryd.func8.symm.trans hfn)).symm
      exact ⟨by kernel_rfl, fun j t ht => by
        rw [Tryd.params8] at ht
        have hm : t ∈ [45, 45] := by simpa using Array.mem_of_getElem? ht
        have hall : ([45, 45].all fun u => !Tryd.prog.wantsStandIn u) = true := by kernel_rfl
        exact (show Tryd.prog.wantsStandIn t = false by simpa using List.all_eq_true.1 hall t hm)⟩)
    (by kernel_rfl)
#print axioms proved
end Go.Proofs.YtljbbajelkkafaaDoor.modelSame
