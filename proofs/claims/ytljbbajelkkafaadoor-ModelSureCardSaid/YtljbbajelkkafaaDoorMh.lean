/-
  What a model seals, and its steps, walked.
-/
import Derived.Test.YtljbbajelkkafaaDoorMg
namespace Go.Proofs.YtljbbajelkkafaaDoor.L
open Go
set_option linter.unusedSectionVars false
variable [Globs] [Has_sha_table] [Has_sha_begin]
set_option linter.unusedVariables false
theorem flat_set_same {α : Type} (T : Ty α) {xs : List α} {i : Nat} {r v : α} (h : xs[i]? = some r) (e : T.cells v = T.cells r) : flat T (xs.set i v) = flat T xs := by
  obtain ⟨hl, hh⟩ := List.getElem?_eq_some_iff.1 h
  have hs : (xs.set i v)[i]? = some v := List.getElem?_set_self hl
  rw [flat_split T h, flat_split T hs, List.take_set_of_le (Nat.le_refl _), List.drop_set_of_lt (by omega), e]
theorem shredR_eq {l : List MRec} {k : Nat} {r : MRec} (h : l[k]? = some r) : shredR l k = l.set k { r with shred := true, text := [] } := by unfold shredR; rw [h]
theorem errShred_range {s : MStr} {c i : Int} (h : i < 0 ∨ (s.recs.length : Int) ≤ i) : errShredM s c i = 161 := by unfold errShredM; rw [if_pos h]
theorem errShred_in {s : MStr} {c : Int} {k : Nat} {r : MRec} (h : s.recs[k]? = some r) : errShredM s c (k : Int) = mayM (zRec r.time r.shred) s.retain s.holds.length c := by
  have := (List.getElem?_eq_some_iff.1 h).1
  unfold errShredM
  rw [if_neg (by omega), Int.toNat_natCast, h]
set_option linter.unusedVariables false
set_option linter.unusedSimpArgs false
attribute [local irreducible] J Lq E OpP PRun is any agg tup ptr sl PRunW OpE
attribute [local irreducible] slt row leafH shaH recsR OpR stL mdl
set_option maxHeartbeats 1000000 in
theorem mseal_fnR {B : Nat} {m : MM} {A1 : Option Addr} {c1 : Nat} {xs1 : List MO} {A2 : Option Addr} {c2 : Nat} {xs2 : List MO} (hf : fits m xs1 xs2) (hl : xs2.length ≤ 1000) (hg : ∀ x ∈ xs2, x.1.recs.length ≤ 1000 ∧ x.1.holds.length ≤ 1000) : FnR Tryd.prog 58 [is (.pointer (some ⟨B, 0, none⟩))] (mdl B m A1 c1 xs1 A2 c2 xs2)
    (fun ψ Δ => ψ = any ∧ mdV B (sealM m) Δ) := by
  have hcl := mclone_fnR m.cur.clock A2 c2 xs2 hl hg
  refine FnR.mk' 13 Tryd.func58 rfl rfl rfl rfl fun w0 H0 => ?_
  unfold mdl mdC
  repeat (first | ((first | (apply Lq.s; rfl) | apply PRun.s | (apply Lq.run; rfl; rfl; rfl; exact bsB) | (apply PRun.run; rfl; rfl; exact bsB)); first | (apply op_oload (stO A2 xs2.length c2) (x := m.cur.clock); rfl; exact bsM; rfl) | (exact bsO)) | apply J.seq | apply E.next | apply J.lq | apply Lq.nil | apply PRun.nil | apply J.block | apply E.in_normal | apply J.skip | (apply Lq.store; rfl; rfl; exact bsP; exact bsS; rfl; rfl) | (apply PRun.al; rfl) | (apply Lq.al; rfl; rfl; intro b) | (apply Open.cons; intro b) | apply Open.nil | (apply Lq.pass; rfl; rfl; rfl) | (apply PRun.pass; rfl; rfl) | (apply Lq.skip; rfl; rfl; rfl; exact bsB) | (apply PRun.skip; rfl; rfl; exact bsB) | (apply J.cond_t; rfl) | (apply J.cond_f; rfl) | apply J.exit | apply E.then_exit | apply E.in_exit | (apply E.in_other; rfl))
  refine Lq.callS (Δ0 := stL A2 c2 xs2) (Δf := own B 66 _ :: stL A1 c1 xs1) hcl rfl bsD (permP [[_], _, _] [0, 1, 2] [1, 0, 2] (by decide)) ?_
  rintro _ _ ⟨A', c', ys, hm, rfl, rfl⟩
  rw [List.append_assoc]
  refine Lq.perm (permP [_, _, [_], _] [0, 1, 2, 3] [2, 1, 0, 3] (by decide)) ?_
  repeat (first | ((first | (apply Lq.s; rfl) | apply PRun.s | (apply Lq.run; rfl; rfl; rfl; exact bsB) | (apply PRun.run; rfl; rfl; exact bsB)); first | (exact bsO)) | apply J.seq | apply E.next | apply J.lq | apply Lq.nil | apply PRun.nil | apply J.block | apply E.in_normal | apply J.skip | (apply Lq.store; rfl; rfl; exact bsP; exact bsS; rfl; rfl) | (apply PRun.al; rfl) | (apply Lq.al; rfl; rfl; intro b) | (apply Open.cons; intro b) | apply Open.nil | (apply Lq.pass; rfl; rfl; rfl) | (apply PRun.pass; rfl; rfl) | (apply Lq.skip; rfl; rfl; rfl; exact bsB) | (apply PRun.skip; rfl; rfl; exact bsB) | (apply J.cond_t; rfl) | (apply J.cond_f; rfl) | apply J.exit | apply E.then_exit | apply E.in_exit | (apply E.in_other; rfl))
  refine E.retR0 (Δ' := mdl B (sealM m) A' c' ys A2 c2 xs2) (G := stL A1 c1 xs1) .normal (.inr rfl) rfl (fun _ => any_h) ⟨rfl, _, _, _, _, _, _, ⟨hm.trans hf.2, hf.2⟩, rfl⟩ ?_
  unfold mdl
  rw [List.cons_append, List.append_assoc]
  exact List.Perm.refl _
theorem msync_fnR {B : Nat} {m : MM} {A1 : Option Addr} {c1 : Nat} {xs1 : List MO} {A2 : Option Addr} {c2 : Nat} {xs2 : List MO} (full : Bool) (hf : fits m xs1 xs2) (hk : MOk m) : FnR Tryd.prog 34 [is (.pointer (some ⟨B, 0, none⟩)), is (.bool full)] (mdl B m A1 c1 xs1 A2 c2 xs2)
    (fun ψ Δ => ψ = is (.int .i64 (syncM m full).2) ∧ mdV B (syncM m full).1 Δ) := by
  have hmd : mdV B m (mdl B m A1 c1 xs1 A2 c2 xs2) := ⟨A1, c1, xs1, A2, c2, xs2, hf, rfl⟩
  obtain ⟨hl2, hg2⟩ := fits_g hf.2 hk.cur
  have htd := hk.todo
  refine FnR.mk' 34 Tryd.func34 rfl rfl rfl rfl fun w0 H0 => ?_
  rw [mdl_eq]
  obtain ⟨D, hD⟩ : ∃ D, D = recsR xs2 ++ stL A1 c1 xs1 := ⟨_, rfl⟩
  rw [← hD]
  unfold mdC
  cases hm : m.mnt with
  | false =>
    have e : syncM m full = (m, 240) := by unfold syncM; rw [hm]; rfl
    rw [e]
    repeat (first | ((first | (apply Lq.s; rfl) | apply PRun.s | (apply Lq.run; rfl; rfl; rfl; exact bsB) | (apply PRun.run; rfl; rfl; exact bsB)); first | (apply op_ocell; rfl; exact bsM; rfl) | (apply op_slen; rfl) | (exact bsO)) | apply J.seq | apply E.next | apply J.lq | apply Lq.nil | apply PRun.nil | apply J.block | apply E.in_normal | apply J.skip | (apply Lq.store; rfl; rfl; exact bsP; exact bsS; rfl; rfl) | (apply PRun.al; rfl) | (apply Lq.al; rfl; rfl; intro b) | (apply Open.cons; intro b) | apply Open.nil | (apply Lq.pass; rfl; rfl; rfl) | (apply PRun.pass; rfl; rfl) | (apply Lq.skip; rfl; rfl; rfl; exact bsB) | (apply PRun.skip; rfl; rfl; exact bsB) | (apply J.cond_t; rfl) | (apply J.cond_f; rfl) | apply J.exit | apply E.then_exit | apply E.in_exit | (apply E.in_other; rfl))
    (refine J.ret ?_; (repeat (first | refine E.then_ret ?_ | refine E.in_ret ?_)))
    exact E.retR1 (G := []) rfl rfl ⟨rfl, hmd⟩ (by rw [List.append_nil, mdl_eq, hD]; unfold mdC; rw [hm])
  | true =>
    repeat (first | ((first | (apply Lq.s; rfl) | apply PRun.s | (apply Lq.run; rfl; rfl; rfl; exact bsB) | (apply PRun.run; rfl; rfl; exact bsB)); first | (apply op_ocell; rfl; exact bsM; rfl) | (apply op_slen; rfl) | (exact bsO)) | apply J.seq | apply E.next | apply J.lq | apply Lq.nil | apply PRun.nil | apply J.block | apply E.in_normal | apply J.skip | (apply Lq.store; rfl; rfl; exact bsP; exact bsS; rfl; rfl) | (apply PRun.al; rfl) | (apply Lq.al; rfl; rfl; intro b) | (apply Open.cons; intro b) | apply Open.nil | (apply Lq.pass; rfl; rfl; rfl) | (apply PRun.pass; rfl; rfl) | (apply Lq.skip; rfl; rfl; rfl; exact bsB) | (apply PRun.skip; rfl; rfl; exact bsB) | (apply J.cond_t; rfl) | (apply J.cond_f; rfl) | apply J.exit | apply E.then_exit | apply E.in_exit | (apply E.in_other; rfl))
    by_cases h0 : m.todo = 0
    · by_cases hc : m.cur.clock = m.sure.clock
      · have e : syncM m full = (m, 0) := by unfold syncM; rw [hm, if_pos rfl, if_pos ⟨h0, hc⟩]
        rw [e]
        refine J.drawW 19 [(none, none), (none, none), (none, none), (none, none), (none, none), (none, none), (none, none), (none, none), (none, none), (none, none), (none, none), (none, none), (none, none), (none, none), (none, none), (none, none), (none, none), (none, none), (none, none)] mixed (by kernel_rfl) ?_
        repeat (first | ((first | apply PRunW.s | (apply PRunW.run; rfl; rfl; exact bsB) | (apply Lq.s; rfl) | apply PRun.s | (apply Lq.run; rfl; rfl; rfl; exact bsB) | (apply PRun.run; rfl; rfl; exact bsB)); first | (apply op_ocell; rfl; exact bsM; rfl) | (apply op_slen; rfl) | (apply op_eql_t; rfl; rfl; omega) | (exact bsO)) | apply J.seq | apply E.next | apply J.lq | apply Lq.nil | apply PRun.nil | apply J.block | apply E.in_normal | apply J.skip | (apply Lq.store; rfl; rfl; exact bsP; exact bsS; rfl; rfl) | (apply PRun.al; rfl) | (apply Lq.al; rfl; rfl; intro b) | (apply Open.cons; intro b) | apply Open.nil | (apply Lq.pass; rfl; rfl; rfl) | (apply PRun.pass; rfl; rfl) | (apply Lq.skip; rfl; rfl; rfl; exact bsB) | (apply PRun.skip; rfl; rfl; exact bsB) | (apply J.cond_t; rfl) | (apply J.cond_f; rfl) | apply J.exit | apply E.then_exit | apply E.in_exit | (apply E.in_other; rfl) | apply PRunW.nil | (apply PRunW.al; rfl) | (apply PRunW.pass; rfl; rfl) | (apply PRunW.skip; rfl; rfl; exact bsB) | (apply Open.pv; intro b) | apply Open.av | (apply Open.rv; intro A c))
        repeat (first | ((first | (apply Lq.s; rfl) | apply PRun.s | (apply Lq.run; rfl; rfl; rfl; exact bsB) | (apply PRun.run; rfl; rfl; exact bsB)); first | (exact bsO)) | apply J.seq | apply E.next | apply J.lq | apply Lq.nil | apply PRun.nil | apply J.block | apply E.in_normal | apply J.skip | (apply Lq.store; rfl; rfl; exact bsP; exact bsS; rfl; rfl) | (apply PRun.al; rfl) | (apply Lq.al; rfl; rfl; intro b) | (apply Open.cons; intro b) | apply Open.nil | (apply Lq.pass; rfl; rfl; rfl) | (apply PRun.pass; rfl; rfl) | (apply Lq.skip; rfl; rfl; rfl; exact bsB) | (apply PRun.skip; rfl; rfl; exact bsB) | (apply J.cond_t; rfl) | (apply J.cond_f; rfl) | apply J.exit | apply E.then_exit | apply E.in_exit | (apply E.in_other; rfl))
        (refine J.ret ?_; (repeat (first | refine E.then_ret ?_ | refine E.in_ret ?_)))
        exact E.retR1 (G := []) rfl rfl ⟨rfl, hmd⟩ (by rw [List.append_nil, mdl_eq, hD]; unfold mdC; rw [hm])
      · have e : syncM m full = if full then (m, 241) else (sealM m, 0) := by unfold syncM; rw [hm, if_pos rfl, if_neg (by omega)]
        rw [e]
        refine J.drawW 19 [(none, none), (none, none), (none, none), (none, none), (none, none), (none, none), (none, none), (none, none), (none, none), (none, none), (none, none), (none, none), (none, none), (none, none), (none, none), (none, none), (none, none), (none, none), (none, none)] mixed (by kernel_rfl) ?_
        repeat (first | ((first | apply PRunW.s | (apply PRunW.run; rfl; rfl; exact bsB) | (apply Lq.s; rfl) | apply PRun.s | (apply Lq.run; rfl; rfl; rfl; exact bsB) | (apply PRun.run; rfl; rfl; exact bsB)); first | (apply op_ocell; rfl; exact bsM; rfl) | (apply op_slen; rfl) | (apply op_eql_t; rfl; rfl; omega) | (apply op_eql_f; rfl; rfl; omega) | (exact bsO)) | apply J.seq | apply E.next | apply J.lq | apply Lq.nil | apply PRun.nil | apply J.block | apply E.in_normal | apply J.skip | (apply Lq.store; rfl; rfl; exact bsP; exact bsS; rfl; rfl) | (apply PRun.al; rfl) | (apply Lq.al; rfl; rfl; intro b) | (apply Open.cons; intro b) | apply Open.nil | (apply Lq.pass; rfl; rfl; rfl) | (apply PRun.pass; rfl; rfl) | (apply Lq.skip; rfl; rfl; rfl; exact bsB) | (apply PRun.skip; rfl; rfl; exact bsB) | (apply J.cond_t; rfl) | (apply J.cond_f; rfl) | apply J.exit | apply E.then_exit | apply E.in_exit | (apply E.in_other; rfl) | apply PRunW.nil | (apply PRunW.al; rfl) | (apply PRunW.pass; rfl; rfl) | (apply PRunW.skip; rfl; rfl; exact bsB) | (apply Open.pv; intro b) | apply Open.av | (apply Open.rv; intro A c))
        cases full with
        | true =>
          rw [if_pos rfl]
          repeat (first | ((first | (apply Lq.s; rfl) | apply PRun.s | (apply Lq.run; rfl; rfl; rfl; exact bsB) | (apply PRun.run; rfl; rfl; exact bsB)); first | (exact bsO)) | apply J.seq | apply E.next | apply J.lq | apply Lq.nil | apply PRun.nil | apply J.block | apply E.in_normal | apply J.skip | (apply Lq.store; rfl; rfl; exact bsP; exact bsS; rfl; rfl) | (apply PRun.al; rfl) | (apply Lq.al; rfl; rfl; intro b) | (apply Open.cons; intro b) | apply Open.nil | (apply Lq.pass; rfl; rfl; rfl) | (apply PRun.pass; rfl; rfl) | (apply Lq.skip; rfl; rfl; rfl; exact bsB) | (apply PRun.skip; rfl; rfl; exact bsB) | (apply J.cond_t; rfl) | (apply J.cond_f; rfl) | apply J.exit | apply E.then_exit | apply E.in_exit | (apply E.in_other; rfl))
          (refine J.ret ?_; (repeat (first | refine E.then_ret ?_ | refine E.in_ret ?_)))
          exact E.retR1 (G := []) rfl rfl ⟨rfl, hmd⟩ (by rw [List.append_nil, mdl_eq, hD]; unfold mdC; rw [hm])
        | false =>
          rw [if_neg (by decide)]
          repeat (first | ((first | (apply Lq.s; rfl) | apply PRun.s | (apply Lq.run; rfl; rfl; rfl; exact bsB) | (apply PRun.run; rfl; rfl; exact bsB)); first | (exact bsO)) | apply J.seq | apply E.next | apply J.lq | apply Lq.nil | apply PRun.nil | apply J.block | apply E.in_normal | apply J.skip | (apply Lq.store; rfl; rfl; exact bsP; exact bsS; rfl; rfl) | (apply PRun.al; rfl) | (apply Lq.al; rfl; rfl; intro b) | (apply Open.cons; intro b) | apply Open.nil | (apply Lq.pass; rfl; rfl; rfl) | (apply PRun.pass; rfl; rfl) | (apply Lq.skip; rfl; rfl; rfl; exact bsB) | (apply PRun.skip; rfl; rfl; exact bsB) | (apply J.cond_t; rfl) | (apply J.cond_f; rfl) | apply J.exit | apply E.then_exit | apply E.in_exit | (apply E.in_other; rfl))
          refine Lq.callS (Δ0 := mdl B m A1 c1 xs1 A2 c2 xs2) (Δf := []) (mseal_fnR hf (by omega) hg2) rfl bsD (by rw [List.append_nil, mdl_eq, hD]; unfold mdC; rw [hm]) ?_
          rintro _ D2 ⟨rfl, hV⟩
          rw [List.append_nil]
          repeat (first | ((first | (apply Lq.s; rfl) | apply PRun.s | (apply Lq.run; rfl; rfl; rfl; exact bsB) | (apply PRun.run; rfl; rfl; exact bsB)); first | (exact bsO)) | apply J.seq | apply E.next | apply J.lq | apply Lq.nil | apply PRun.nil | apply J.block | apply E.in_normal | apply J.skip | (apply Lq.store; rfl; rfl; exact bsP; exact bsS; rfl; rfl) | (apply PRun.al; rfl) | (apply Lq.al; rfl; rfl; intro b) | (apply Open.cons; intro b) | apply Open.nil | (apply Lq.pass; rfl; rfl; rfl) | (apply PRun.pass; rfl; rfl) | (apply Lq.skip; rfl; rfl; rfl; exact bsB) | (apply PRun.skip; rfl; rfl; exact bsB) | (apply J.cond_t; rfl) | (apply J.cond_f; rfl) | apply J.exit | apply E.then_exit | apply E.in_exit | (apply E.in_other; rfl))
          (refine J.ret ?_; (repeat (first | refine E.then_ret ?_ | refine E.in_ret ?_)))
          exact E.retR1 (G := []) rfl rfl ⟨rfl, hV⟩ (by rw [List.append_nil])
    · have e : syncM m full = if full then (m, 241) else (sealM m, 0) := by unfold syncM; rw [hm, if_pos rfl, if_neg (by omega)]
      rw [e]
      refine J.drawW 19 [(none, none), (none, none), (none, none), (none, none), (none, none), (none, none), (none, none), (none, none), (none, none), (none, none), (none, none), (none, none), (none, none), (none, none), (none, none), (none, none), (none, none), (none, none), (none, none)] mixed (by kernel_rfl) ?_
      repeat (first | ((first | apply PRunW.s | (apply PRunW.run; rfl; rfl; exact bsB) | (apply Lq.s; rfl) | apply PRun.s | (apply Lq.run; rfl; rfl; rfl; exact bsB) | (apply PRun.run; rfl; rfl; exact bsB)); first | (apply op_ocell; rfl; exact bsM; rfl) | (apply op_slen; rfl) | (apply op_eql_t; rfl; rfl; omega) | (apply op_eql_f; rfl; rfl; omega) | (exact bsO)) | apply J.seq | apply E.next | apply J.lq | apply Lq.nil | apply PRun.nil | apply J.block | apply E.in_normal | apply J.skip | (apply Lq.store; rfl; rfl; exact bsP; exact bsS; rfl; rfl) | (apply PRun.al; rfl) | (apply Lq.al; rfl; rfl; intro b) | (apply Open.cons; intro b) | apply Open.nil | (apply Lq.pass; rfl; rfl; rfl) | (apply PRun.pass; rfl; rfl) | (apply Lq.skip; rfl; rfl; rfl; exact bsB) | (apply PRun.skip; rfl; rfl; exact bsB) | (apply J.cond_t; rfl) | (apply J.cond_f; rfl) | apply J.exit | apply E.then_exit | apply E.in_exit | (apply E.in_other; rfl) | apply PRunW.nil | (apply PRunW.al; rfl) | (apply PRunW.pass; rfl; rfl) | (apply PRunW.skip; rfl; rfl; exact bsB) | (apply Open.pv; intro b) | apply Open.av | (apply Open.rv; intro A c))
      cases full with
      | true =>
        rw [if_pos rfl]
        repeat (first | ((first | (apply Lq.s; rfl) | apply PRun.s | (apply Lq.run; rfl; rfl; rfl; exact bsB) | (apply PRun.run; rfl; rfl; exact bsB)); first | (exact bsO)) | apply J.seq | apply E.next | apply J.lq | apply Lq.nil | apply PRun.nil | apply J.block | apply E.in_normal | apply J.skip | (apply Lq.store; rfl; rfl; exact bsP; exact bsS; rfl; rfl) | (apply PRun.al; rfl) | (apply Lq.al; rfl; rfl; intro b) | (apply Open.cons; intro b) | apply Open.nil | (apply Lq.pass; rfl; rfl; rfl) | (apply PRun.pass; rfl; rfl) | (apply Lq.skip; rfl; rfl; rfl; exact bsB) | (apply PRun.skip; rfl; rfl; exact bsB) | (apply J.cond_t; rfl) | (apply J.cond_f; rfl) | apply J.exit | apply E.then_exit | apply E.in_exit | (apply E.in_other; rfl))
        (refine J.ret ?_; (repeat (first | refine E.then_ret ?_ | refine E.in_ret ?_)))
        exact E.retR1 (G := []) rfl rfl ⟨rfl, hmd⟩ (by rw [List.append_nil, mdl_eq, hD]; unfold mdC; rw [hm])
      | false =>
        rw [if_neg (by decide)]
        repeat (first | ((first | (apply Lq.s; rfl) | apply PRun.s | (apply Lq.run; rfl; rfl; rfl; exact bsB) | (apply PRun.run; rfl; rfl; exact bsB)); first | (exact bsO)) | apply J.seq | apply E.next | apply J.lq | apply Lq.nil | apply PRun.nil | apply J.block | apply E.in_normal | apply J.skip | (apply Lq.store; rfl; rfl; exact bsP; exact bsS; rfl; rfl) | (apply PRun.al; rfl) | (apply Lq.al; rfl; rfl; intro b) | (apply Open.cons; intro b) | apply Open.nil | (apply Lq.pass; rfl; rfl; rfl) | (apply PRun.pass; rfl; rfl) | (apply Lq.skip; rfl; rfl; rfl; exact bsB) | (apply PRun.skip; rfl; rfl; exact bsB) | (apply J.cond_t; rfl) | (apply J.cond_f; rfl) | apply J.exit | apply E.then_exit | apply E.in_exit | (apply E.in_other; rfl))
        refine Lq.callS (Δ0 := mdl B m A1 c1 xs1 A2 c2 xs2) (Δf := []) (mseal_fnR hf (by omega) hg2) rfl bsD (by rw [List.append_nil, mdl_eq, hD]; unfold mdC; rw [hm]) ?_
        rintro _ D2 ⟨rfl, hV⟩
        rw [List.append_nil]
        repeat (first | ((first | (apply Lq.s; rfl) | apply PRun.s | (apply Lq.run; rfl; rfl; rfl; exact bsB) | (apply PRun.run; rfl; rfl; exact bsB)); first | (exact bsO)) | apply J.seq | apply E.next | apply J.lq | apply Lq.nil | apply PRun.nil | apply J.block | apply E.in_normal | apply J.skip | (apply Lq.store; rfl; rfl; exact bsP; exact bsS; rfl; rfl) | (apply PRun.al; rfl) | (apply Lq.al; rfl; rfl; intro b) | (apply Open.cons; intro b) | apply Open.nil | (apply Lq.pass; rfl; rfl; rfl) | (apply PRun.pass; rfl; rfl) | (apply Lq.skip; rfl; rfl; rfl; exact bsB) | (apply PRun.skip; rfl; rfl; exact bsB) | (apply J.cond_t; rfl) | (apply J.cond_f; rfl) | apply J.exit | apply E.then_exit | apply E.in_exit | (apply E.in_other; rfl))
        (refine J.ret ?_; (repeat (first | refine E.then_ret ?_ | refine E.in_ret ?_)))
        exact E.retR1 (G := []) rfl rfl ⟨rfl, hV⟩ (by rw [List.append_nil])
theorem mturn_fnR {B : Nat} {m : MM} {A1 : Option Addr} {c1 : Nat} {xs1 : List MO} {A2 : Option Addr} {c2 : Nat} {xs2 : List MO} (k : Int) (full : Bool) (hf : fits m xs1 xs2) (hk : MOk m) (hkk : k = 1 ∨ k = 2 ∨ k = 3) : FnR Tryd.prog 32 [is (.pointer (some ⟨B, 0, none⟩)), is (.int .i64 k), is (.bool full)] (mdl B m A1 c1 xs1 A2 c2 xs2)
    (fun ψ Δ => ψ = is (.int .i64 (turnM m k full).2) ∧ mdV B (turnM m k full).1 Δ) := by
  have hmd : mdV B m (mdl B m A1 c1 xs1 A2 c2 xs2) := ⟨A1, c1, xs1, A2, c2, xs2, hf, rfl⟩
  obtain ⟨hl1, hg1⟩ := fits_g hf.1 hk.sure
  have hcl := mclone_fnR m.sure.clock A1 c1 xs1 (by omega) hg1
  refine FnR.mk' 67 Tryd.func32 rfl rfl rfl rfl fun w0 H0 => ?_
  unfold mdl mdC
  rcases hkk with rfl | rfl | rfl
  · cases hm : m.mnt with
    | true =>
      have e : turnM m 1 full = (m, 240) := by unfold turnM errTurn; simp [hm]
      rw [e]
      repeat (first | ((first | (apply Lq.s; rfl) | apply PRun.s | (apply Lq.run; rfl; rfl; rfl; exact bsB) | (apply PRun.run; rfl; rfl; exact bsB)); first | (apply op_ocell; rfl; exact bsM; rfl) | (apply op_slen; rfl) | (apply op_bne; rfl; rfl) | (exact bsO)) | apply J.seq | apply E.next | apply J.lq | apply Lq.nil | apply PRun.nil | apply J.block | apply E.in_normal | apply J.skip | (apply Lq.store; rfl; rfl; exact bsP; exact bsS; rfl; rfl) | (apply PRun.al; rfl) | (apply Lq.al; rfl; rfl; intro b) | (apply Open.cons; intro b) | apply Open.nil | (apply Lq.pass; rfl; rfl; rfl) | (apply PRun.pass; rfl; rfl) | (apply Lq.skip; rfl; rfl; rfl; exact bsB) | (apply PRun.skip; rfl; rfl; exact bsB) | (apply J.cond_t; rfl) | (apply J.cond_f; rfl) | apply J.exit | apply E.then_exit | apply E.in_exit | (apply E.in_other; rfl))
      (refine J.ret ?_; (repeat (first | refine E.then_ret ?_ | refine E.in_ret ?_)))
      exact E.retR1 (Δ' := mdl B m A1 c1 xs1 A2 c2 xs2) (G := []) rfl rfl ⟨rfl, hmd⟩ (by rw [List.append_nil]; unfold mdl mdC; simp only [hm]; exact List.Perm.refl _)
    | false =>
      cases hfm : m.fmt with
      | true =>
        have e : turnM m 1 full = (m, 160) := by unfold turnM errTurn; simp [hm, hfm]
        rw [e]
        repeat (first | ((first | (apply Lq.s; rfl) | apply PRun.s | (apply Lq.run; rfl; rfl; rfl; exact bsB) | (apply PRun.run; rfl; rfl; exact bsB)); first | (apply op_ocell; rfl; exact bsM; rfl) | (apply op_slen; rfl) | (apply op_bne; rfl; rfl) | (exact bsO)) | apply J.seq | apply E.next | apply J.lq | apply Lq.nil | apply PRun.nil | apply J.block | apply E.in_normal | apply J.skip | (apply Lq.store; rfl; rfl; exact bsP; exact bsS; rfl; rfl) | (apply PRun.al; rfl) | (apply Lq.al; rfl; rfl; intro b) | (apply Open.cons; intro b) | apply Open.nil | (apply Lq.pass; rfl; rfl; rfl) | (apply PRun.pass; rfl; rfl) | (apply Lq.skip; rfl; rfl; rfl; exact bsB) | (apply PRun.skip; rfl; rfl; exact bsB) | (apply J.cond_t; rfl) | (apply J.cond_f; rfl) | apply J.exit | apply E.then_exit | apply E.in_exit | (apply E.in_other; rfl))
        (refine J.ret ?_; (repeat (first | refine E.then_ret ?_ | refine E.in_ret ?_)))
        exact E.retR1 (Δ' := mdl B m A1 c1 xs1 A2 c2 xs2) (G := []) rfl rfl ⟨rfl, hmd⟩ (by rw [List.append_nil]; unfold mdl mdC; simp only [hm, hfm]; exact List.Perm.refl _)
      | false =>
        cases full with
        | true =>
          have e : turnM m 1 true = (m, 241) := by unfold turnM errTurn; simp [hm, hfm]
          rw [e]
          repeat (first | ((first | (apply Lq.s; rfl) | apply PRun.s | (apply Lq.run; rfl; rfl; rfl; exact bsB) | (apply PRun.run; rfl; rfl; exact bsB)); first | (apply op_ocell; rfl; exact bsM; rfl) | (apply op_slen; rfl) | (apply op_bne; rfl; rfl) | (exact bsO)) | apply J.seq | apply E.next | apply J.lq | apply Lq.nil | apply PRun.nil | apply J.block | apply E.in_normal | apply J.skip | (apply Lq.store; rfl; rfl; exact bsP; exact bsS; rfl; rfl) | (apply PRun.al; rfl) | (apply Lq.al; rfl; rfl; intro b) | (apply Open.cons; intro b) | apply Open.nil | (apply Lq.pass; rfl; rfl; rfl) | (apply PRun.pass; rfl; rfl) | (apply Lq.skip; rfl; rfl; rfl; exact bsB) | (apply PRun.skip; rfl; rfl; exact bsB) | (apply J.cond_t; rfl) | (apply J.cond_f; rfl) | apply J.exit | apply E.then_exit | apply E.in_exit | (apply E.in_other; rfl))
          (refine J.ret ?_; (repeat (first | refine E.then_ret ?_ | refine E.in_ret ?_)))
          exact E.retR1 (Δ' := mdl B m A1 c1 xs1 A2 c2 xs2) (G := []) rfl rfl ⟨rfl, hmd⟩ (by rw [List.append_nil]; unfold mdl mdC; simp only [hm, hfm]; exact List.Perm.refl _)
        | false =>
          have e : turnM m 1 false = (⟨true, false, m.sure, m.sure, 0⟩, 0) := by unfold turnM errTurn; simp [hm, hfm]
          rw [e]
          repeat (first | ((first | (apply Lq.s; rfl) | apply PRun.s | (apply Lq.run; rfl; rfl; rfl; exact bsB) | (apply PRun.run; rfl; rfl; exact bsB)); first | (apply op_ocell; rfl; exact bsM; rfl) | (apply op_slen; rfl) | (apply op_bne; rfl; rfl) | (apply op_oload (stO A1 xs1.length c1) (x := m.sure.clock); rfl; exact bsM; rfl) | (exact bsO)) | apply J.seq | apply E.next | apply J.lq | apply Lq.nil | apply PRun.nil | apply J.block | apply E.in_normal | apply J.skip | (apply Lq.store; rfl; rfl; exact bsP; exact bsS; rfl; rfl) | (apply PRun.al; rfl) | (apply Lq.al; rfl; rfl; intro b) | (apply Open.cons; intro b) | apply Open.nil | (apply Lq.pass; rfl; rfl; rfl) | (apply PRun.pass; rfl; rfl) | (apply Lq.skip; rfl; rfl; rfl; exact bsB) | (apply PRun.skip; rfl; rfl; exact bsB) | (apply J.cond_t; rfl) | (apply J.cond_f; rfl) | apply J.exit | apply E.then_exit | apply E.in_exit | (apply E.in_other; rfl))
          refine Lq.callS (Δ0 := stL A1 c1 xs1) (Δf := own B 66 _ :: stL A2 c2 xs2) hcl rfl bsD (permP [[_], _, _] [0, 1, 2] [2, 0, 1] (by decide)) ?_
          rintro _ _ ⟨A', c', ys, hm2, rfl, rfl⟩
          rw [List.append_assoc]
          refine Lq.perm (permP [_, _, [_], _] [0, 1, 2, 3] [2, 0, 1, 3] (by decide)) ?_
          repeat (first | ((first | (apply Lq.s; rfl) | apply PRun.s | (apply Lq.run; rfl; rfl; rfl; exact bsB) | (apply PRun.run; rfl; rfl; exact bsB)); first | (exact bsO)) | apply J.seq | apply E.next | apply J.lq | apply Lq.nil | apply PRun.nil | apply J.block | apply E.in_normal | apply J.skip | (apply Lq.store; rfl; rfl; exact bsP; exact bsS; rfl; rfl) | (apply PRun.al; rfl) | (apply Lq.al; rfl; rfl; intro b) | (apply Open.cons; intro b) | apply Open.nil | (apply Lq.pass; rfl; rfl; rfl) | (apply PRun.pass; rfl; rfl) | (apply Lq.skip; rfl; rfl; rfl; exact bsB) | (apply PRun.skip; rfl; rfl; exact bsB) | (apply J.cond_t; rfl) | (apply J.cond_f; rfl) | apply J.exit | apply E.then_exit | apply E.in_exit | (apply E.in_other; rfl))
          (refine J.ret ?_; (repeat (first | refine E.then_ret ?_ | refine E.in_ret ?_)))
          refine E.retR1 (Δ' := mdl B ⟨true, false, m.sure, m.sure, 0⟩ A1 c1 xs1 A' c' ys) (G := stL A2 c2 xs2) rfl rfl ⟨rfl, _, _, _, _, _, _, ⟨hf.1, hm2.trans hf.1⟩, rfl⟩ ?_
          unfold mdl
          rw [List.cons_append, List.append_assoc]
          exact List.Perm.refl _
  · cases hm : m.mnt with
    | true =>
      have e : turnM m 2 full = (m, 240) := by unfold turnM errTurn; simp [hm]
      rw [e]
      repeat (first | ((first | (apply Lq.s; rfl) | apply PRun.s | (apply Lq.run; rfl; rfl; rfl; exact bsB) | (apply PRun.run; rfl; rfl; exact bsB)); first | (apply op_ocell; rfl; exact bsM; rfl) | (apply op_slen; rfl) | (apply op_bne; rfl; rfl) | (exact bsO)) | apply J.seq | apply E.next | apply J.lq | apply Lq.nil | apply PRun.nil | apply J.block | apply E.in_normal | apply J.skip | (apply Lq.store; rfl; rfl; exact bsP; exact bsS; rfl; rfl) | (apply PRun.al; rfl) | (apply Lq.al; rfl; rfl; intro b) | (apply Open.cons; intro b) | apply Open.nil | (apply Lq.pass; rfl; rfl; rfl) | (apply PRun.pass; rfl; rfl) | (apply Lq.skip; rfl; rfl; rfl; exact bsB) | (apply PRun.skip; rfl; rfl; exact bsB) | (apply J.cond_t; rfl) | (apply J.cond_f; rfl) | apply J.exit | apply E.then_exit | apply E.in_exit | (apply E.in_other; rfl))
      (refine J.ret ?_; (repeat (first | refine E.then_ret ?_ | refine E.in_ret ?_)))
      exact E.retR1 (Δ' := mdl B m A1 c1 xs1 A2 c2 xs2) (G := []) rfl rfl ⟨rfl, hmd⟩ (by rw [List.append_nil]; unfold mdl mdC; simp only [hm]; exact List.Perm.refl _)
    | false =>
      cases hfm : m.fmt with
      | false =>
        have e : turnM m 2 full = (m, 4) := by unfold turnM errTurn; simp [hm, hfm]
        rw [e]
        repeat (first | ((first | (apply Lq.s; rfl) | apply PRun.s | (apply Lq.run; rfl; rfl; rfl; exact bsB) | (apply PRun.run; rfl; rfl; exact bsB)); first | (apply op_ocell; rfl; exact bsM; rfl) | (apply op_slen; rfl) | (apply op_bne; rfl; rfl) | (exact bsO)) | apply J.seq | apply E.next | apply J.lq | apply Lq.nil | apply PRun.nil | apply J.block | apply E.in_normal | apply J.skip | (apply Lq.store; rfl; rfl; exact bsP; exact bsS; rfl; rfl) | (apply PRun.al; rfl) | (apply Lq.al; rfl; rfl; intro b) | (apply Open.cons; intro b) | apply Open.nil | (apply Lq.pass; rfl; rfl; rfl) | (apply PRun.pass; rfl; rfl) | (apply Lq.skip; rfl; rfl; rfl; exact bsB) | (apply PRun.skip; rfl; rfl; exact bsB) | (apply J.cond_t; rfl) | (apply J.cond_f; rfl) | apply J.exit | apply E.then_exit | apply E.in_exit | (apply E.in_other; rfl))
        (refine J.ret ?_; (repeat (first | refine E.then_ret ?_ | refine E.in_ret ?_)))
        exact E.retR1 (Δ' := mdl B m A1 c1 xs1 A2 c2 xs2) (G := []) rfl rfl ⟨rfl, hmd⟩ (by rw [List.append_nil]; unfold mdl mdC; simp only [hm, hfm]; exact List.Perm.refl _)
      | true =>
        have e : turnM m 2 full = (⟨true, true, m.sure, m.sure, 0⟩, 0) := by unfold turnM errTurn; simp [hm, hfm]
        rw [e]
        repeat (first | ((first | (apply Lq.s; rfl) | apply PRun.s | (apply Lq.run; rfl; rfl; rfl; exact bsB) | (apply PRun.run; rfl; rfl; exact bsB)); first | (apply op_ocell; rfl; exact bsM; rfl) | (apply op_slen; rfl) | (apply op_bne; rfl; rfl) | (apply op_oload (stO A1 xs1.length c1) (x := m.sure.clock); rfl; exact bsM; rfl) | (exact bsO)) | apply J.seq | apply E.next | apply J.lq | apply Lq.nil | apply PRun.nil | apply J.block | apply E.in_normal | apply J.skip | (apply Lq.store; rfl; rfl; exact bsP; exact bsS; rfl; rfl) | (apply PRun.al; rfl) | (apply Lq.al; rfl; rfl; intro b) | (apply Open.cons; intro b) | apply Open.nil | (apply Lq.pass; rfl; rfl; rfl) | (apply PRun.pass; rfl; rfl) | (apply Lq.skip; rfl; rfl; rfl; exact bsB) | (apply PRun.skip; rfl; rfl; exact bsB) | (apply J.cond_t; rfl) | (apply J.cond_f; rfl) | apply J.exit | apply E.then_exit | apply E.in_exit | (apply E.in_other; rfl))
        refine Lq.callS (Δ0 := stL A1 c1 xs1) (Δf := own B 66 _ :: stL A2 c2 xs2) hcl rfl bsD (permP [[_], _, _] [0, 1, 2] [2, 0, 1] (by decide)) ?_
        rintro _ _ ⟨A', c', ys, hm2, rfl, rfl⟩
        rw [List.append_assoc]
        refine Lq.perm (permP [_, _, [_], _] [0, 1, 2, 3] [2, 0, 1, 3] (by decide)) ?_
        repeat (first | ((first | (apply Lq.s; rfl) | apply PRun.s | (apply Lq.run; rfl; rfl; rfl; exact bsB) | (apply PRun.run; rfl; rfl; exact bsB)); first | (exact bsO)) | apply J.seq | apply E.next | apply J.lq | apply Lq.nil | apply PRun.nil | apply J.block | apply E.in_normal | apply J.skip | (apply Lq.store; rfl; rfl; exact bsP; exact bsS; rfl; rfl) | (apply PRun.al; rfl) | (apply Lq.al; rfl; rfl; intro b) | (apply Open.cons; intro b) | apply Open.nil | (apply Lq.pass; rfl; rfl; rfl) | (apply PRun.pass; rfl; rfl) | (apply Lq.skip; rfl; rfl; rfl; exact bsB) | (apply PRun.skip; rfl; rfl; exact bsB) | (apply J.cond_t; rfl) | (apply J.cond_f; rfl) | apply J.exit | apply E.then_exit | apply E.in_exit | (apply E.in_other; rfl))
        (refine J.ret ?_; (repeat (first | refine E.then_ret ?_ | refine E.in_ret ?_)))
        refine E.retR1 (Δ' := mdl B ⟨true, true, m.sure, m.sure, 0⟩ A1 c1 xs1 A' c' ys) (G := stL A2 c2 xs2) rfl rfl ⟨rfl, _, _, _, _, _, _, ⟨hf.1, hm2.trans hf.1⟩, rfl⟩ ?_
        unfold mdl
        rw [List.cons_append, List.append_assoc]
        exact List.Perm.refl _
  · cases hm : m.mnt with
    | false =>
      have e : turnM m 3 full = (m, 240) := by unfold turnM errTurn; simp [hm]
      rw [e]
      repeat (first | ((first | (apply Lq.s; rfl) | apply PRun.s | (apply Lq.run; rfl; rfl; rfl; exact bsB) | (apply PRun.run; rfl; rfl; exact bsB)); first | (apply op_ocell; rfl; exact bsM; rfl) | (apply op_slen; rfl) | (apply op_bne; rfl; rfl) | (exact bsO)) | apply J.seq | apply E.next | apply J.lq | apply Lq.nil | apply PRun.nil | apply J.block | apply E.in_normal | apply J.skip | (apply Lq.store; rfl; rfl; exact bsP; exact bsS; rfl; rfl) | (apply PRun.al; rfl) | (apply Lq.al; rfl; rfl; intro b) | (apply Open.cons; intro b) | apply Open.nil | (apply Lq.pass; rfl; rfl; rfl) | (apply PRun.pass; rfl; rfl) | (apply Lq.skip; rfl; rfl; rfl; exact bsB) | (apply PRun.skip; rfl; rfl; exact bsB) | (apply J.cond_t; rfl) | (apply J.cond_f; rfl) | apply J.exit | apply E.then_exit | apply E.in_exit | (apply E.in_other; rfl))
      (refine J.ret ?_; (repeat (first | refine E.then_ret ?_ | refine E.in_ret ?_)))
      exact E.retR1 (Δ' := mdl B m A1 c1 xs1 A2 c2 xs2) (G := []) rfl rfl ⟨rfl, hmd⟩ (by rw [List.append_nil]; unfold mdl mdC; simp only [hm]; exact List.Perm.refl _)
    | true =>
      cases hfm : m.fmt with
      | false =>
        have e : turnM m 3 full = (⟨false, false, m.sure, m.sure, 0⟩, 0) := by unfold turnM errTurn; simp [hm, hfm]
        rw [e]
        repeat (first | ((first | (apply Lq.s; rfl) | apply PRun.s | (apply Lq.run; rfl; rfl; rfl; exact bsB) | (apply PRun.run; rfl; rfl; exact bsB)); first | (apply op_ocell; rfl; exact bsM; rfl) | (apply op_slen; rfl) | (apply op_bne; rfl; rfl) | (apply op_oload (stO A1 xs1.length c1) (x := m.sure.clock); rfl; exact bsM; rfl) | (exact bsO)) | apply J.seq | apply E.next | apply J.lq | apply Lq.nil | apply PRun.nil | apply J.block | apply E.in_normal | apply J.skip | (apply Lq.store; rfl; rfl; exact bsP; exact bsS; rfl; rfl) | (apply PRun.al; rfl) | (apply Lq.al; rfl; rfl; intro b) | (apply Open.cons; intro b) | apply Open.nil | (apply Lq.pass; rfl; rfl; rfl) | (apply PRun.pass; rfl; rfl) | (apply Lq.skip; rfl; rfl; rfl; exact bsB) | (apply PRun.skip; rfl; rfl; exact bsB) | (apply J.cond_t; rfl) | (apply J.cond_f; rfl) | apply J.exit | apply E.then_exit | apply E.in_exit | (apply E.in_other; rfl))
        refine Lq.callS (Δ0 := stL A1 c1 xs1) (Δf := own B 66 _ :: stL A2 c2 xs2) hcl rfl bsD (permP [[_], _, _] [0, 1, 2] [2, 0, 1] (by decide)) ?_
        rintro _ _ ⟨A', c', ys, hm2, rfl, rfl⟩
        rw [List.append_assoc]
        refine Lq.perm (permP [_, _, [_], _] [0, 1, 2, 3] [2, 0, 1, 3] (by decide)) ?_
        repeat (first | ((first | (apply Lq.s; rfl) | apply PRun.s | (apply Lq.run; rfl; rfl; rfl; exact bsB) | (apply PRun.run; rfl; rfl; exact bsB)); first | (exact bsO)) | apply J.seq | apply E.next | apply J.lq | apply Lq.nil | apply PRun.nil | apply J.block | apply E.in_normal | apply J.skip | (apply Lq.store; rfl; rfl; exact bsP; exact bsS; rfl; rfl) | (apply PRun.al; rfl) | (apply Lq.al; rfl; rfl; intro b) | (apply Open.cons; intro b) | apply Open.nil | (apply Lq.pass; rfl; rfl; rfl) | (apply PRun.pass; rfl; rfl) | (apply Lq.skip; rfl; rfl; rfl; exact bsB) | (apply PRun.skip; rfl; rfl; exact bsB) | (apply J.cond_t; rfl) | (apply J.cond_f; rfl) | apply J.exit | apply E.then_exit | apply E.in_exit | (apply E.in_other; rfl))
        (refine J.ret ?_; (repeat (first | refine E.then_ret ?_ | refine E.in_ret ?_)))
        refine E.retR1 (Δ' := mdl B ⟨false, false, m.sure, m.sure, 0⟩ A1 c1 xs1 A' c' ys) (G := stL A2 c2 xs2) rfl rfl ⟨rfl, _, _, _, _, _, _, ⟨hf.1, hm2.trans hf.1⟩, rfl⟩ ?_
        unfold mdl
        rw [List.cons_append, List.append_assoc]
        exact List.Perm.refl _
      | true =>
        have e : turnM m 3 full = (⟨true, false, m.sure, m.sure, 0⟩, 0) := by unfold turnM errTurn; simp [hm, hfm]
        rw [e]
        repeat (first | ((first | (apply Lq.s; rfl) | apply PRun.s | (apply Lq.run; rfl; rfl; rfl; exact bsB) | (apply PRun.run; rfl; rfl; exact bsB)); first | (apply op_ocell; rfl; exact bsM; rfl) | (apply op_slen; rfl) | (apply op_bne; rfl; rfl) | (apply op_oload (stO A1 xs1.length c1) (x := m.sure.clock); rfl; exact bsM; rfl) | (exact bsO)) | apply J.seq | apply E.next | apply J.lq | apply Lq.nil | apply PRun.nil | apply J.block | apply E.in_normal | apply J.skip | (apply Lq.store; rfl; rfl; exact bsP; exact bsS; rfl; rfl) | (apply PRun.al; rfl) | (apply Lq.al; rfl; rfl; intro b) | (apply Open.cons; intro b) | apply Open.nil | (apply Lq.pass; rfl; rfl; rfl) | (apply PRun.pass; rfl; rfl) | (apply Lq.skip; rfl; rfl; rfl; exact bsB) | (apply PRun.skip; rfl; rfl; exact bsB) | (apply J.cond_t; rfl) | (apply J.cond_f; rfl) | apply J.exit | apply E.then_exit | apply E.in_exit | (apply E.in_other; rfl))
        refine Lq.callS (Δ0 := stL A1 c1 xs1) (Δf := own B 66 _ :: stL A2 c2 xs2) hcl rfl bsD (permP [[_], _, _] [0, 1, 2] [2, 0, 1] (by decide)) ?_
        rintro _ _ ⟨A', c', ys, hm2, rfl, rfl⟩
        rw [List.append_assoc]
        refine Lq.perm (permP [_, _, [_], _] [0, 1, 2, 3] [2, 0, 1, 3] (by decide)) ?_
        repeat (first | ((first | (apply Lq.s; rfl) | apply PRun.s | (apply Lq.run; rfl; rfl; rfl; exact bsB) | (apply PRun.run; rfl; rfl; exact bsB)); first | (exact bsO)) | apply J.seq | apply E.next | apply J.lq | apply Lq.nil | apply PRun.nil | apply J.block | apply E.in_normal | apply J.skip | (apply Lq.store; rfl; rfl; exact bsP; exact bsS; rfl; rfl) | (apply PRun.al; rfl) | (apply Lq.al; rfl; rfl; intro b) | (apply Open.cons; intro b) | apply Open.nil | (apply Lq.pass; rfl; rfl; rfl) | (apply PRun.pass; rfl; rfl) | (apply Lq.skip; rfl; rfl; rfl; exact bsB) | (apply PRun.skip; rfl; rfl; exact bsB) | (apply J.cond_t; rfl) | (apply J.cond_f; rfl) | apply J.exit | apply E.then_exit | apply E.in_exit | (apply E.in_other; rfl))
        (refine J.ret ?_; (repeat (first | refine E.then_ret ?_ | refine E.in_ret ?_)))
        refine E.retR1 (Δ' := mdl B ⟨true, false, m.sure, m.sure, 0⟩ A1 c1 xs1 A' c' ys) (G := stL A2 c2 xs2) rfl rfl ⟨rfl, _, _, _, _, _, _, ⟨hf.1, hm2.trans hf.1⟩, rfl⟩ ?_
        unfold mdl
        rw [List.cons_append, List.append_assoc]
        exact List.Perm.refl _
end Go.Proofs.YtljbbajelkkafaaDoor.L
