/-
  A model's steps, walked.
-/
import Derived.Test.YtljbbajelkkafaaDoorMi
namespace Go.Proofs.YtljbbajelkkafaaDoor.L
open Go
set_option linter.unusedSectionVars false
variable [Globs] [Has_sha_table] [Has_sha_begin]
set_option linter.unusedVariables false
theorem stepOf_n {m : MM} {i : Nat} {s : MStr} {x : StepS} {full : Bool} (h : x.kind ≠ 5) : (stepOf m i s x full).2.1 = 0 := by
  unfold stepOf
  split
  · split
    · first
      | rfl
      | (show (if x.kind = 5 then _ else _) = _
         rw [if_neg h])
    · rfl
  · rfl
set_option linter.unusedVariables false
set_option linter.unusedSimpArgs false
attribute [local irreducible] J Lq E OpP PRun is any agg tup ptr sl PRunW OpE
attribute [local irreducible] slt row leafH shaH recsR OpR stL mdl
set_option maxHeartbeats 8000000 in
theorem mof_fnR {B : Nat} {m : MM} {A1 : Option Addr} {c1 : Nat} {xs1 : List MO} {A2 : Option Addr} {c2 : Nat} {xs2 : List MO} (x : StepS) (full : Bool) (hf : fits m xs1 xs2) (hk : MOk m) (hkk : x.kind = 5 ∨ x.kind = 7 ∨ x.kind = 8 ∨ x.kind = 9 ∨ x.kind = 10) :
    FnR Tryd.prog 36 [is (.pointer (some ⟨B, 0, none⟩)), stepT.val x, is (.bool full)] (mdl B m A1 c1 xs1 A2 c2 xs2)
    (fun ψ Δ => ψ = tup [is (.int .i64 (ofM m x full).2.1), is (str []), is (.int .i64 (ofM m x full).2.2)] ∧ mdV B (ofM m x full).1 Δ) := by
  have hmd : mdV B m (mdl B m A1 c1 xs1 A2 c2 xs2) := ⟨A1, c1, xs1, A2, c2, xs2, hf, rfl⟩
  by_cases h : errFind m x.name = 0
  · obtain ⟨⟨ss, sa, sc⟩, hs, hs1, hlt⟩ := find_x hf.2 (find_ok0 h).2
    dsimp only at hs1
    rw [ofM_ok h, ← hs1]
    have hfo := mfind_ok (B := B) (A1 := A1) (c1 := c1) (A2 := A2) (c2 := c2) x.name hf hk h
    generalize findN m.cur.streams x.name = K at *
    refine FnR.mk' 65 Tryd.func36 rfl rfl rfl rfl fun w0 H0 => ?_
    repeat (first | ((first | (apply Lq.s; rfl) | apply PRun.s | (apply Lq.run; rfl; rfl; rfl; exact bsB) | (apply PRun.run; rfl; rfl; exact bsB)); first | (apply op_box stepT; rfl) | (apply op_faddr step_kind; rfl; decide) | (apply op_faddr step_n; rfl; decide) | (apply op_faddr step_name; rfl; decide) | (apply op_faddr step_text; rfl; decide) | (apply op_load (intT .i64); rfl) | (apply op_load strT; rfl) | (apply op_load stepT; rfl) | (exact bsO)) | apply J.seq | apply E.next | apply J.lq | apply Lq.nil | apply PRun.nil | apply J.block | apply E.in_normal | apply J.skip | (apply Lq.store; rfl; rfl; exact bsP; exact bsS; rfl; rfl) | (apply PRun.al; rfl) | (apply Lq.al; rfl; rfl; intro b) | (apply Open.cons; intro b) | apply Open.nil | (apply Lq.pass; rfl; rfl; rfl) | (apply PRun.pass; rfl; rfl) | (apply Lq.skip; rfl; rfl; rfl; exact bsB) | (apply PRun.skip; rfl; rfl; exact bsB) | (apply J.cond_t; rfl) | (apply J.cond_f; rfl) | apply J.exit | apply E.then_exit | apply E.in_exit | (apply E.in_other; rfl))
    refine Lq.callS (Δ0 := mdl B m A1 c1 xs1 A2 c2 xs2) (Δf := []) hfo rfl bsD (by rw [List.append_nil]) ?_
    rintro _ _ ⟨nb, no, rfl, rfl, rfl⟩
    rw [List.append_nil]
    rcases hkk with hk5 | hk5 | hk5 | hk5 | hk5
    · have hh := madd_fnR (B := B) (A1 := A1) (c1 := c1) (nb := nb) (no := no) (c2 := c2) x full hf hk hs hk5
      generalize stepOf m K ss x full = q at *
      repeat (first | ((first | (apply Lq.s; rfl) | apply PRun.s | (apply Lq.run; rfl; rfl; rfl; exact bsB) | (apply PRun.run; rfl; rfl; exact bsB)); first | (apply op_box stepT; rfl) | (apply op_faddr step_kind; rfl; decide) | (apply op_faddr step_n; rfl; decide) | (apply op_faddr step_name; rfl; decide) | (apply op_faddr step_text; rfl; decide) | (apply op_load (intT .i64); rfl) | (apply op_load strT; rfl) | (apply op_load stepT; rfl) | (exact bsO)) | apply J.seq | apply E.next | apply J.lq | apply Lq.nil | apply PRun.nil | apply J.block | apply E.in_normal | apply J.skip | (apply Lq.store; rfl; rfl; exact bsP; exact bsS; rfl; rfl) | (apply PRun.al; rfl) | (apply Lq.al; rfl; rfl; intro b) | (apply Open.cons; intro b) | apply Open.nil | (apply Lq.pass; rfl; rfl; rfl) | (apply PRun.pass; rfl; rfl) | (apply Lq.skip; rfl; rfl; rfl; exact bsB) | (apply PRun.skip; rfl; rfl; exact bsB) | (apply J.cond_t; rfl) | (apply J.cond_f; rfl) | apply J.exit | apply E.then_exit | apply E.in_exit | (apply E.in_other; rfl))
      refine Lq.callS (Δ0 := mdl B m A1 c1 xs1 (some ⟨nb, no, none⟩) c2 xs2) (Δf := []) hh rfl bsD (by rw [List.append_nil]) ?_
      rintro _ D2 ⟨rfl, hV⟩
      rw [List.append_nil]
      repeat (first | ((first | (apply Lq.s; rfl) | apply PRun.s | (apply Lq.run; rfl; rfl; rfl; exact bsB) | (apply PRun.run; rfl; rfl; exact bsB)); first | (apply op_box stepT; rfl) | (apply op_faddr step_kind; rfl; decide) | (apply op_faddr step_n; rfl; decide) | (apply op_faddr step_name; rfl; decide) | (apply op_faddr step_text; rfl; decide) | (apply op_load (intT .i64); rfl) | (apply op_load strT; rfl) | (apply op_load stepT; rfl) | (exact bsO)) | apply J.seq | apply E.next | apply J.lq | apply Lq.nil | apply PRun.nil | apply J.block | apply E.in_normal | apply J.skip | (apply Lq.store; rfl; rfl; exact bsP; exact bsS; rfl; rfl) | (apply PRun.al; rfl) | (apply Lq.al; rfl; rfl; intro b) | (apply Open.cons; intro b) | apply Open.nil | (apply Lq.pass; rfl; rfl; rfl) | (apply PRun.pass; rfl; rfl) | (apply Lq.skip; rfl; rfl; rfl; exact bsB) | (apply PRun.skip; rfl; rfl; exact bsB) | (apply J.cond_t; rfl) | (apply J.cond_f; rfl) | apply J.exit | apply E.then_exit | apply E.in_exit | (apply E.in_other; rfl))
      (refine J.ret ?_; (repeat (first | refine E.then_ret ?_ | refine E.in_ret ?_)))
      exact E.retR3 (G := []) rfl rfl rfl rfl ⟨rfl, hV⟩ (by rw [List.append_nil])
    · have hh := mretain_fnR (B := B) (A1 := A1) (c1 := c1) (nb := nb) (no := no) (c2 := c2) x full hf hk hs hk5
      have hq := stepOf_n (m := m) (i := K) (s := ss) (full := full) (show x.kind ≠ 5 by rw [hk5]; decide)
      generalize stepOf m K ss x full = q at *
      rw [hq]
      repeat (first | ((first | (apply Lq.s; rfl) | apply PRun.s | (apply Lq.run; rfl; rfl; rfl; exact bsB) | (apply PRun.run; rfl; rfl; exact bsB)); first | (apply op_box stepT; rfl) | (apply op_faddr step_kind; rfl; decide) | (apply op_faddr step_n; rfl; decide) | (apply op_faddr step_name; rfl; decide) | (apply op_faddr step_text; rfl; decide) | (apply op_load (intT .i64); rfl) | (apply op_load strT; rfl) | (apply op_load stepT; rfl) | (exact bsO)) | apply J.seq | apply E.next | apply J.lq | apply Lq.nil | apply PRun.nil | apply J.block | apply E.in_normal | apply J.skip | (apply Lq.store; rfl; rfl; exact bsP; exact bsS; rfl; rfl) | (apply PRun.al; rfl) | (apply Lq.al; rfl; rfl; intro b) | (apply Open.cons; intro b) | apply Open.nil | (apply Lq.pass; rfl; rfl; rfl) | (apply PRun.pass; rfl; rfl) | (apply Lq.skip; rfl; rfl; rfl; exact bsB) | (apply PRun.skip; rfl; rfl; exact bsB) | (apply J.cond_t; rfl) | (apply J.cond_f; rfl) | apply J.exit | apply E.then_exit | apply E.in_exit | (apply E.in_other; rfl))
      refine Lq.callS (Δ0 := mdl B m A1 c1 xs1 (some ⟨nb, no, none⟩) c2 xs2) (Δf := []) hh rfl bsD (by rw [List.append_nil]) ?_
      rintro _ D2 ⟨rfl, hV⟩
      rw [List.append_nil]
      repeat (first | ((first | (apply Lq.s; rfl) | apply PRun.s | (apply Lq.run; rfl; rfl; rfl; exact bsB) | (apply PRun.run; rfl; rfl; exact bsB)); first | (apply op_box stepT; rfl) | (apply op_faddr step_kind; rfl; decide) | (apply op_faddr step_n; rfl; decide) | (apply op_faddr step_name; rfl; decide) | (apply op_faddr step_text; rfl; decide) | (apply op_load (intT .i64); rfl) | (apply op_load strT; rfl) | (apply op_load stepT; rfl) | (exact bsO)) | apply J.seq | apply E.next | apply J.lq | apply Lq.nil | apply PRun.nil | apply J.block | apply E.in_normal | apply J.skip | (apply Lq.store; rfl; rfl; exact bsP; exact bsS; rfl; rfl) | (apply PRun.al; rfl) | (apply Lq.al; rfl; rfl; intro b) | (apply Open.cons; intro b) | apply Open.nil | (apply Lq.pass; rfl; rfl; rfl) | (apply PRun.pass; rfl; rfl) | (apply Lq.skip; rfl; rfl; rfl; exact bsB) | (apply PRun.skip; rfl; rfl; exact bsB) | (apply J.cond_t; rfl) | (apply J.cond_f; rfl) | apply J.exit | apply E.then_exit | apply E.in_exit | (apply E.in_other; rfl))
      (refine J.ret ?_; (repeat (first | refine E.then_ret ?_ | refine E.in_ret ?_)))
      exact E.retR3 (G := []) rfl rfl rfl rfl ⟨rfl, hV⟩ (by rw [List.append_nil])
    · have hh := mhold_fnR (B := B) (A1 := A1) (c1 := c1) (nb := nb) (no := no) (c2 := c2) x full hf hk hs hk5
      have hq := stepOf_n (m := m) (i := K) (s := ss) (full := full) (show x.kind ≠ 5 by rw [hk5]; decide)
      generalize stepOf m K ss x full = q at *
      rw [hq]
      repeat (first | ((first | (apply Lq.s; rfl) | apply PRun.s | (apply Lq.run; rfl; rfl; rfl; exact bsB) | (apply PRun.run; rfl; rfl; exact bsB)); first | (apply op_box stepT; rfl) | (apply op_faddr step_kind; rfl; decide) | (apply op_faddr step_n; rfl; decide) | (apply op_faddr step_name; rfl; decide) | (apply op_faddr step_text; rfl; decide) | (apply op_load (intT .i64); rfl) | (apply op_load strT; rfl) | (apply op_load stepT; rfl) | (exact bsO)) | apply J.seq | apply E.next | apply J.lq | apply Lq.nil | apply PRun.nil | apply J.block | apply E.in_normal | apply J.skip | (apply Lq.store; rfl; rfl; exact bsP; exact bsS; rfl; rfl) | (apply PRun.al; rfl) | (apply Lq.al; rfl; rfl; intro b) | (apply Open.cons; intro b) | apply Open.nil | (apply Lq.pass; rfl; rfl; rfl) | (apply PRun.pass; rfl; rfl) | (apply Lq.skip; rfl; rfl; rfl; exact bsB) | (apply PRun.skip; rfl; rfl; exact bsB) | (apply J.cond_t; rfl) | (apply J.cond_f; rfl) | apply J.exit | apply E.then_exit | apply E.in_exit | (apply E.in_other; rfl))
      refine Lq.callS (Δ0 := mdl B m A1 c1 xs1 (some ⟨nb, no, none⟩) c2 xs2) (Δf := []) hh rfl bsD (by rw [List.append_nil]) ?_
      rintro _ D2 ⟨rfl, hV⟩
      rw [List.append_nil]
      repeat (first | ((first | (apply Lq.s; rfl) | apply PRun.s | (apply Lq.run; rfl; rfl; rfl; exact bsB) | (apply PRun.run; rfl; rfl; exact bsB)); first | (apply op_box stepT; rfl) | (apply op_faddr step_kind; rfl; decide) | (apply op_faddr step_n; rfl; decide) | (apply op_faddr step_name; rfl; decide) | (apply op_faddr step_text; rfl; decide) | (apply op_load (intT .i64); rfl) | (apply op_load strT; rfl) | (apply op_load stepT; rfl) | (exact bsO)) | apply J.seq | apply E.next | apply J.lq | apply Lq.nil | apply PRun.nil | apply J.block | apply E.in_normal | apply J.skip | (apply Lq.store; rfl; rfl; exact bsP; exact bsS; rfl; rfl) | (apply PRun.al; rfl) | (apply Lq.al; rfl; rfl; intro b) | (apply Open.cons; intro b) | apply Open.nil | (apply Lq.pass; rfl; rfl; rfl) | (apply PRun.pass; rfl; rfl) | (apply Lq.skip; rfl; rfl; rfl; exact bsB) | (apply PRun.skip; rfl; rfl; exact bsB) | (apply J.cond_t; rfl) | (apply J.cond_f; rfl) | apply J.exit | apply E.then_exit | apply E.in_exit | (apply E.in_other; rfl))
      (refine J.ret ?_; (repeat (first | refine E.then_ret ?_ | refine E.in_ret ?_)))
      exact E.retR3 (G := []) rfl rfl rfl rfl ⟨rfl, hV⟩ (by rw [List.append_nil])
    · have hh := mrelease_fnR (B := B) (A1 := A1) (c1 := c1) (nb := nb) (no := no) (c2 := c2) x full hf hk hs hk5
      have hq := stepOf_n (m := m) (i := K) (s := ss) (full := full) (show x.kind ≠ 5 by rw [hk5]; decide)
      generalize stepOf m K ss x full = q at *
      rw [hq]
      repeat (first | ((first | (apply Lq.s; rfl) | apply PRun.s | (apply Lq.run; rfl; rfl; rfl; exact bsB) | (apply PRun.run; rfl; rfl; exact bsB)); first | (apply op_box stepT; rfl) | (apply op_faddr step_kind; rfl; decide) | (apply op_faddr step_n; rfl; decide) | (apply op_faddr step_name; rfl; decide) | (apply op_faddr step_text; rfl; decide) | (apply op_load (intT .i64); rfl) | (apply op_load strT; rfl) | (apply op_load stepT; rfl) | (exact bsO)) | apply J.seq | apply E.next | apply J.lq | apply Lq.nil | apply PRun.nil | apply J.block | apply E.in_normal | apply J.skip | (apply Lq.store; rfl; rfl; exact bsP; exact bsS; rfl; rfl) | (apply PRun.al; rfl) | (apply Lq.al; rfl; rfl; intro b) | (apply Open.cons; intro b) | apply Open.nil | (apply Lq.pass; rfl; rfl; rfl) | (apply PRun.pass; rfl; rfl) | (apply Lq.skip; rfl; rfl; rfl; exact bsB) | (apply PRun.skip; rfl; rfl; exact bsB) | (apply J.cond_t; rfl) | (apply J.cond_f; rfl) | apply J.exit | apply E.then_exit | apply E.in_exit | (apply E.in_other; rfl))
      refine Lq.callS (Δ0 := mdl B m A1 c1 xs1 (some ⟨nb, no, none⟩) c2 xs2) (Δf := []) hh rfl bsD (by rw [List.append_nil]) ?_
      rintro _ D2 ⟨rfl, hV⟩
      rw [List.append_nil]
      repeat (first | ((first | (apply Lq.s; rfl) | apply PRun.s | (apply Lq.run; rfl; rfl; rfl; exact bsB) | (apply PRun.run; rfl; rfl; exact bsB)); first | (apply op_box stepT; rfl) | (apply op_faddr step_kind; rfl; decide) | (apply op_faddr step_n; rfl; decide) | (apply op_faddr step_name; rfl; decide) | (apply op_faddr step_text; rfl; decide) | (apply op_load (intT .i64); rfl) | (apply op_load strT; rfl) | (apply op_load stepT; rfl) | (exact bsO)) | apply J.seq | apply E.next | apply J.lq | apply Lq.nil | apply PRun.nil | apply J.block | apply E.in_normal | apply J.skip | (apply Lq.store; rfl; rfl; exact bsP; exact bsS; rfl; rfl) | (apply PRun.al; rfl) | (apply Lq.al; rfl; rfl; intro b) | (apply Open.cons; intro b) | apply Open.nil | (apply Lq.pass; rfl; rfl; rfl) | (apply PRun.pass; rfl; rfl) | (apply Lq.skip; rfl; rfl; rfl; exact bsB) | (apply PRun.skip; rfl; rfl; exact bsB) | (apply J.cond_t; rfl) | (apply J.cond_f; rfl) | apply J.exit | apply E.then_exit | apply E.in_exit | (apply E.in_other; rfl))
      (refine J.ret ?_; (repeat (first | refine E.then_ret ?_ | refine E.in_ret ?_)))
      exact E.retR3 (G := []) rfl rfl rfl rfl ⟨rfl, hV⟩ (by rw [List.append_nil])
    · have hh := mshred_fnR (B := B) (A1 := A1) (c1 := c1) (nb := nb) (no := no) (c2 := c2) x full hf hk hs hk5
      have hq := stepOf_n (m := m) (i := K) (s := ss) (full := full) (show x.kind ≠ 5 by rw [hk5]; decide)
      generalize stepOf m K ss x full = q at *
      rw [hq]
      repeat (first | ((first | (apply Lq.s; rfl) | apply PRun.s | (apply Lq.run; rfl; rfl; rfl; exact bsB) | (apply PRun.run; rfl; rfl; exact bsB)); first | (apply op_box stepT; rfl) | (apply op_faddr step_kind; rfl; decide) | (apply op_faddr step_n; rfl; decide) | (apply op_faddr step_name; rfl; decide) | (apply op_faddr step_text; rfl; decide) | (apply op_load (intT .i64); rfl) | (apply op_load strT; rfl) | (apply op_load stepT; rfl) | (exact bsO)) | apply J.seq | apply E.next | apply J.lq | apply Lq.nil | apply PRun.nil | apply J.block | apply E.in_normal | apply J.skip | (apply Lq.store; rfl; rfl; exact bsP; exact bsS; rfl; rfl) | (apply PRun.al; rfl) | (apply Lq.al; rfl; rfl; intro b) | (apply Open.cons; intro b) | apply Open.nil | (apply Lq.pass; rfl; rfl; rfl) | (apply PRun.pass; rfl; rfl) | (apply Lq.skip; rfl; rfl; rfl; exact bsB) | (apply PRun.skip; rfl; rfl; exact bsB) | (apply J.cond_t; rfl) | (apply J.cond_f; rfl) | apply J.exit | apply E.then_exit | apply E.in_exit | (apply E.in_other; rfl))
      refine Lq.callS (Δ0 := mdl B m A1 c1 xs1 (some ⟨nb, no, none⟩) c2 xs2) (Δf := []) hh rfl bsD (by rw [List.append_nil]) ?_
      rintro _ D2 ⟨rfl, hV⟩
      rw [List.append_nil]
      repeat (first | ((first | (apply Lq.s; rfl) | apply PRun.s | (apply Lq.run; rfl; rfl; rfl; exact bsB) | (apply PRun.run; rfl; rfl; exact bsB)); first | (apply op_box stepT; rfl) | (apply op_faddr step_kind; rfl; decide) | (apply op_faddr step_n; rfl; decide) | (apply op_faddr step_name; rfl; decide) | (apply op_faddr step_text; rfl; decide) | (apply op_load (intT .i64); rfl) | (apply op_load strT; rfl) | (apply op_load stepT; rfl) | (exact bsO)) | apply J.seq | apply E.next | apply J.lq | apply Lq.nil | apply PRun.nil | apply J.block | apply E.in_normal | apply J.skip | (apply Lq.store; rfl; rfl; exact bsP; exact bsS; rfl; rfl) | (apply PRun.al; rfl) | (apply Lq.al; rfl; rfl; intro b) | (apply Open.cons; intro b) | apply Open.nil | (apply Lq.pass; rfl; rfl; rfl) | (apply PRun.pass; rfl; rfl) | (apply Lq.skip; rfl; rfl; rfl; exact bsB) | (apply PRun.skip; rfl; rfl; exact bsB) | (apply J.cond_t; rfl) | (apply J.cond_f; rfl) | apply J.exit | apply E.then_exit | apply E.in_exit | (apply E.in_other; rfl))
      (refine J.ret ?_; (repeat (first | refine E.then_ret ?_ | refine E.in_ret ?_)))
      exact E.retR3 (G := []) rfl rfl rfl rfl ⟨rfl, hV⟩ (by rw [List.append_nil])
  · have e : ofM m x full = (m, 0, errFind m x.name) := by unfold ofM; rw [if_neg h]
    rw [e]
    have hfb := mfind_bad (B := B) (A1 := A1) (c1 := c1) (A2 := A2) (c2 := c2) x.name hf hk h
    generalize errFind m x.name = ef at *
    refine FnR.mk' 65 Tryd.func36 rfl rfl rfl rfl fun w0 H0 => ?_
    repeat (first | ((first | (apply Lq.s; rfl) | apply PRun.s | (apply Lq.run; rfl; rfl; rfl; exact bsB) | (apply PRun.run; rfl; rfl; exact bsB)); first | (apply op_box stepT; rfl) | (apply op_faddr step_kind; rfl; decide) | (apply op_faddr step_n; rfl; decide) | (apply op_faddr step_name; rfl; decide) | (apply op_faddr step_text; rfl; decide) | (apply op_load (intT .i64); rfl) | (apply op_load strT; rfl) | (apply op_load stepT; rfl) | (exact bsO)) | apply J.seq | apply E.next | apply J.lq | apply Lq.nil | apply PRun.nil | apply J.block | apply E.in_normal | apply J.skip | (apply Lq.store; rfl; rfl; exact bsP; exact bsS; rfl; rfl) | (apply PRun.al; rfl) | (apply Lq.al; rfl; rfl; intro b) | (apply Open.cons; intro b) | apply Open.nil | (apply Lq.pass; rfl; rfl; rfl) | (apply PRun.pass; rfl; rfl) | (apply Lq.skip; rfl; rfl; rfl; exact bsB) | (apply PRun.skip; rfl; rfl; exact bsB) | (apply J.cond_t; rfl) | (apply J.cond_f; rfl) | apply J.exit | apply E.then_exit | apply E.in_exit | (apply E.in_other; rfl))
    refine Lq.callS (Δ0 := mdl B m A1 c1 xs1 A2 c2 xs2) (Δf := []) hfb rfl bsD (by rw [List.append_nil]) ?_
    rintro _ _ ⟨rfl, rfl⟩
    rw [List.append_nil]
    repeat (first | ((first | (apply Lq.s; rfl) | apply PRun.s | (apply Lq.run; rfl; rfl; rfl; exact bsB) | (apply PRun.run; rfl; rfl; exact bsB)); first | (exact bsO)) | apply J.seq | apply E.next | apply J.lq | apply Lq.nil | apply PRun.nil | apply J.block | apply E.in_normal | apply J.skip | (apply Lq.store; rfl; rfl; exact bsP; exact bsS; rfl; rfl) | (apply PRun.al; rfl) | (apply Lq.al; rfl; rfl; intro b) | (apply Open.cons; intro b) | apply Open.nil | (apply Lq.pass; rfl; rfl; rfl) | (apply PRun.pass; rfl; rfl) | (apply Lq.skip; rfl; rfl; rfl; exact bsB) | (apply PRun.skip; rfl; rfl; exact bsB) | (apply J.cond_t; rfl) | (apply J.cond_f; rfl) | apply J.exit | apply E.then_exit | apply E.in_exit | (apply E.in_other; rfl))
    (refine J.ret ?_; (repeat (first | refine E.then_ret ?_ | refine E.in_ret ?_)))
    exact E.retR3 (G := []) rfl rfl rfl rfl ⟨rfl, hmd⟩ (by rw [List.append_nil])
set_option maxHeartbeats 8000000 in
theorem mdo_fnR {B : Nat} {m : MM} {A1 : Option Addr} {c1 : Nat} {xs1 : List MO} {A2 : Option Addr} {c2 : Nat} {xs2 : List MO} (x : StepS) (full : Bool) (hf : fits m xs1 xs2) (hk : MOk m) :
    FnR Tryd.prog 19 [is (.pointer (some ⟨B, 0, none⟩)), stepT.val x, is (.bool full)] (mdl B m A1 c1 xs1 A2 c2 xs2)
    (fun ψ Δ => ψ = tup [is (.int .i64 (doM m x full).2.1), is (str []), is (.int .i64 (doM m x full).2.2)] ∧ mdV B (doM m x full).1 Δ) := by
  have hmd : mdV B m (mdl B m A1 c1 xs1 A2 c2 xs2) := ⟨A1, c1, xs1, A2, c2, xs2, hf, rfl⟩
  refine FnR.mk' 75 Tryd.func19 rfl rfl rfl rfl fun w0 H0 => ?_
  rw [mdl_eq] at hmd ⊢
  obtain ⟨D, hD⟩ : ∃ D, D = row (.slice A2 xs2.length c2) 79 mstrO.toTy xs2 :: (recsR xs2 ++ stL A1 c1 xs1) := ⟨_, rfl⟩
  rw [← hD] at hmd ⊢
  have hback : own B 66 (mdC m A1 xs1.length c1 A2 xs2.length c2) :: D = mdl B m A1 c1 xs1 A2 c2 xs2 := by rw [mdl_eq, hD]
  repeat (first | ((first | (apply Lq.s; rfl) | apply PRun.s | (apply Lq.run; rfl; rfl; rfl; exact bsB) | (apply PRun.run; rfl; rfl; exact bsB)); first | (apply op_box stepT; rfl) | (apply op_faddr step_kind; rfl; decide) | (apply op_faddr step_n; rfl; decide) | (apply op_faddr step_name; rfl; decide) | (apply op_faddr step_text; rfl; decide) | (apply op_load (intT .i64); rfl) | (apply op_load strT; rfl) | (apply op_load stepT; rfl) | (exact bsO)) | apply J.seq | apply E.next | apply J.lq | apply Lq.nil | apply PRun.nil | apply J.block | apply E.in_normal | apply J.skip | (apply Lq.store; rfl; rfl; exact bsP; exact bsS; rfl; rfl) | (apply PRun.al; rfl) | (apply Lq.al; rfl; rfl; intro b) | (apply Open.cons; intro b) | apply Open.nil | (apply Lq.pass; rfl; rfl; rfl) | (apply PRun.pass; rfl; rfl) | (apply Lq.skip; rfl; rfl; rfl; exact bsB) | (apply PRun.skip; rfl; rfl; exact bsB) | (apply J.cond_t; rfl) | (apply J.cond_f; rfl) | apply J.exit | apply E.then_exit | apply E.in_exit | (apply E.in_other; rfl))
  refine Lq.callS (Δ0 := [_]) (Δf := D) (mnone_fnR B _ rfl) rfl bsD (List.Perm.refl _) ?_
  rintro _ _ ⟨rfl, rfl⟩
  unfold doM
  by_cases k1 : x.kind = 1 ∨ x.kind = 2 ∨ x.kind = 3
  · rw [if_pos k1]
    have hh := mturn_fnR (B := B) (A1 := A1) (c1 := c1) (A2 := A2) (c2 := c2) x.kind full hf hk k1
    generalize turnM m x.kind full = q at *
    unfold flat0
    rcases k1 with k1 | k1 | k1
    all_goals
      repeat (first | ((first | (apply Lq.s; rfl) | apply PRun.s | (apply Lq.run; rfl; rfl; rfl; exact bsB) | (apply PRun.run; rfl; rfl; exact bsB)); first | (apply op_box stepT; rfl) | (apply op_faddr step_kind; rfl; decide) | (apply op_faddr step_n; rfl; decide) | (apply op_faddr step_name; rfl; decide) | (apply op_faddr step_text; rfl; decide) | (apply op_load (intT .i64); rfl) | (apply op_load strT; rfl) | (apply op_load stepT; rfl) | (exact bsO)) | apply J.seq | apply E.next | apply J.lq | apply Lq.nil | apply PRun.nil | apply J.block | apply E.in_normal | apply J.skip | (apply Lq.store; rfl; rfl; exact bsP; exact bsS; rfl; rfl) | (apply PRun.al; rfl) | (apply Lq.al; rfl; rfl; intro b) | (apply Open.cons; intro b) | apply Open.nil | (apply Lq.pass; rfl; rfl; rfl) | (apply PRun.pass; rfl; rfl) | (apply Lq.skip; rfl; rfl; rfl; exact bsB) | (apply PRun.skip; rfl; rfl; exact bsB) | (apply J.cond_t; rfl) | (apply J.cond_f; rfl) | apply J.exit | apply E.then_exit | apply E.in_exit | (apply E.in_other; rfl))
      refine Lq.callS (Δ0 := mdl B m A1 c1 xs1 A2 c2 xs2) (Δf := []) hh rfl bsD (by rw [List.append_nil, ← hback]; exact List.Perm.refl _) ?_
      rintro _ D2 ⟨rfl, hV⟩
      rw [List.append_nil]
      repeat (first | ((first | (apply Lq.s; rfl) | apply PRun.s | (apply Lq.run; rfl; rfl; rfl; exact bsB) | (apply PRun.run; rfl; rfl; exact bsB)); first | (exact bsO)) | apply J.seq | apply E.next | apply J.lq | apply Lq.nil | apply PRun.nil | apply J.block | apply E.in_normal | apply J.skip | (apply Lq.store; rfl; rfl; exact bsP; exact bsS; rfl; rfl) | (apply PRun.al; rfl) | (apply Lq.al; rfl; rfl; intro b) | (apply Open.cons; intro b) | apply Open.nil | (apply Lq.pass; rfl; rfl; rfl) | (apply PRun.pass; rfl; rfl) | (apply Lq.skip; rfl; rfl; rfl; exact bsB) | (apply PRun.skip; rfl; rfl; exact bsB) | (apply J.cond_t; rfl) | (apply J.cond_f; rfl) | apply J.exit | apply E.then_exit | apply E.in_exit | (apply E.in_other; rfl))
      (refine J.ret ?_; (repeat (first | refine E.then_ret ?_ | refine E.in_ret ?_)))
      exact E.retR3 (G := []) rfl rfl rfl rfl ⟨rfl, hV⟩ (by rw [List.append_nil])
  rw [if_neg k1]
  by_cases k4 : x.kind = 4
  · rw [if_pos k4]
    have hh := mcreate_fnR (B := B) (A1 := A1) (c1 := c1) (A2 := A2) (c2 := c2) x.name full hf hk
    generalize createMM m x.name full = q at *
    unfold flat0
    repeat (first | ((first | (apply Lq.s; rfl) | apply PRun.s | (apply Lq.run; rfl; rfl; rfl; exact bsB) | (apply PRun.run; rfl; rfl; exact bsB)); first | (apply op_box stepT; rfl) | (apply op_faddr step_kind; rfl; decide) | (apply op_faddr step_n; rfl; decide) | (apply op_faddr step_name; rfl; decide) | (apply op_faddr step_text; rfl; decide) | (apply op_load (intT .i64); rfl) | (apply op_load strT; rfl) | (apply op_load stepT; rfl) | (exact bsO)) | apply J.seq | apply E.next | apply J.lq | apply Lq.nil | apply PRun.nil | apply J.block | apply E.in_normal | apply J.skip | (apply Lq.store; rfl; rfl; exact bsP; exact bsS; rfl; rfl) | (apply PRun.al; rfl) | (apply Lq.al; rfl; rfl; intro b) | (apply Open.cons; intro b) | apply Open.nil | (apply Lq.pass; rfl; rfl; rfl) | (apply PRun.pass; rfl; rfl) | (apply Lq.skip; rfl; rfl; rfl; exact bsB) | (apply PRun.skip; rfl; rfl; exact bsB) | (apply J.cond_t; rfl) | (apply J.cond_f; rfl) | apply J.exit | apply E.then_exit | apply E.in_exit | (apply E.in_other; rfl))
    refine Lq.callS (Δ0 := mdl B m A1 c1 xs1 A2 c2 xs2) (Δf := []) hh rfl bsD (by rw [List.append_nil, ← hback]; exact List.Perm.refl _) ?_
    rintro _ D2 ⟨rfl, hV⟩
    rw [List.append_nil]
    repeat (first | ((first | (apply Lq.s; rfl) | apply PRun.s | (apply Lq.run; rfl; rfl; rfl; exact bsB) | (apply PRun.run; rfl; rfl; exact bsB)); first | (exact bsO)) | apply J.seq | apply E.next | apply J.lq | apply Lq.nil | apply PRun.nil | apply J.block | apply E.in_normal | apply J.skip | (apply Lq.store; rfl; rfl; exact bsP; exact bsS; rfl; rfl) | (apply PRun.al; rfl) | (apply Lq.al; rfl; rfl; intro b) | (apply Open.cons; intro b) | apply Open.nil | (apply Lq.pass; rfl; rfl; rfl) | (apply PRun.pass; rfl; rfl) | (apply Lq.skip; rfl; rfl; rfl; exact bsB) | (apply PRun.skip; rfl; rfl; exact bsB) | (apply J.cond_t; rfl) | (apply J.cond_f; rfl) | apply J.exit | apply E.then_exit | apply E.in_exit | (apply E.in_other; rfl))
    (refine J.ret ?_; (repeat (first | refine E.then_ret ?_ | refine E.in_ret ?_)))
    exact E.retR3 (G := []) rfl rfl rfl rfl ⟨rfl, hV⟩ (by rw [List.append_nil])
  rw [if_neg k4]
  by_cases k6 : x.kind = 6
  · rw [if_pos k6]
    have hh := msync_fnR (B := B) (A1 := A1) (c1 := c1) (A2 := A2) (c2 := c2) full hf hk
    generalize syncM m full = q at *
    unfold flat0
    repeat (first | ((first | (apply Lq.s; rfl) | apply PRun.s | (apply Lq.run; rfl; rfl; rfl; exact bsB) | (apply PRun.run; rfl; rfl; exact bsB)); first | (apply op_box stepT; rfl) | (apply op_faddr step_kind; rfl; decide) | (apply op_faddr step_n; rfl; decide) | (apply op_faddr step_name; rfl; decide) | (apply op_faddr step_text; rfl; decide) | (apply op_load (intT .i64); rfl) | (apply op_load strT; rfl) | (apply op_load stepT; rfl) | (exact bsO)) | apply J.seq | apply E.next | apply J.lq | apply Lq.nil | apply PRun.nil | apply J.block | apply E.in_normal | apply J.skip | (apply Lq.store; rfl; rfl; exact bsP; exact bsS; rfl; rfl) | (apply PRun.al; rfl) | (apply Lq.al; rfl; rfl; intro b) | (apply Open.cons; intro b) | apply Open.nil | (apply Lq.pass; rfl; rfl; rfl) | (apply PRun.pass; rfl; rfl) | (apply Lq.skip; rfl; rfl; rfl; exact bsB) | (apply PRun.skip; rfl; rfl; exact bsB) | (apply J.cond_t; rfl) | (apply J.cond_f; rfl) | apply J.exit | apply E.then_exit | apply E.in_exit | (apply E.in_other; rfl))
    refine Lq.callS (Δ0 := mdl B m A1 c1 xs1 A2 c2 xs2) (Δf := []) hh rfl bsD (by rw [List.append_nil, ← hback]; exact List.Perm.refl _) ?_
    rintro _ D2 ⟨rfl, hV⟩
    rw [List.append_nil]
    repeat (first | ((first | (apply Lq.s; rfl) | apply PRun.s | (apply Lq.run; rfl; rfl; rfl; exact bsB) | (apply PRun.run; rfl; rfl; exact bsB)); first | (exact bsO)) | apply J.seq | apply E.next | apply J.lq | apply Lq.nil | apply PRun.nil | apply J.block | apply E.in_normal | apply J.skip | (apply Lq.store; rfl; rfl; exact bsP; exact bsS; rfl; rfl) | (apply PRun.al; rfl) | (apply Lq.al; rfl; rfl; intro b) | (apply Open.cons; intro b) | apply Open.nil | (apply Lq.pass; rfl; rfl; rfl) | (apply PRun.pass; rfl; rfl) | (apply Lq.skip; rfl; rfl; rfl; exact bsB) | (apply PRun.skip; rfl; rfl; exact bsB) | (apply J.cond_t; rfl) | (apply J.cond_f; rfl) | apply J.exit | apply E.then_exit | apply E.in_exit | (apply E.in_other; rfl))
    (refine J.ret ?_; (repeat (first | refine E.then_ret ?_ | refine E.in_ret ?_)))
    exact E.retR3 (G := []) rfl rfl rfl rfl ⟨rfl, hV⟩ (by rw [List.append_nil])
  rw [if_neg k6]
  by_cases k11 : x.kind = 11
  · rw [if_pos k11]
    unfold flat0
    unfold mdC
    cases hm : m.mnt with
    | false =>
      have e : tickMM m x.n = (m, 240) := by unfold tickMM; rw [hm]; rfl
      rw [e]
      repeat (first | ((first | (apply Lq.s; rfl) | apply PRun.s | (apply Lq.run; rfl; rfl; rfl; exact bsB) | (apply PRun.run; rfl; rfl; exact bsB)); first | (apply op_box stepT; rfl) | (apply op_faddr step_kind; rfl; decide) | (apply op_faddr step_n; rfl; decide) | (apply op_faddr step_name; rfl; decide) | (apply op_faddr step_text; rfl; decide) | (apply op_load (intT .i64); rfl) | (apply op_load strT; rfl) | (apply op_load stepT; rfl) | (apply op_ocell; rfl; exact bsM; rfl) | (apply op_slen; rfl) | (exact bsO)) | apply J.seq | apply E.next | apply J.lq | apply Lq.nil | apply PRun.nil | apply J.block | apply E.in_normal | apply J.skip | (apply Lq.store; rfl; rfl; exact bsP; exact bsS; rfl; rfl) | (apply PRun.al; rfl) | (apply Lq.al; rfl; rfl; intro b) | (apply Open.cons; intro b) | apply Open.nil | (apply Lq.pass; rfl; rfl; rfl) | (apply PRun.pass; rfl; rfl) | (apply Lq.skip; rfl; rfl; rfl; exact bsB) | (apply PRun.skip; rfl; rfl; exact bsB) | (apply J.cond_t; rfl) | (apply J.cond_f; rfl) | apply J.exit | apply E.then_exit | apply E.in_exit | (apply E.in_other; rfl))
      (refine J.ret ?_; (repeat (first | refine E.then_ret ?_ | refine E.in_ret ?_)))
      exact E.retR3 (Δ' := mdl B m A1 c1 xs1 A2 c2 xs2) (G := []) rfl rfl rfl rfl ⟨rfl, hback ▸ hmd⟩ (by rw [List.append_nil, ← hback]; unfold mdC; rw [hm]; exact List.Perm.refl _)
    | true =>
      have ht := tick_fn m.cur.clock x.n
      by_cases h0 : (tickM m.cur.clock x.n).2 = 0
      · have e : tickMM m x.n = ({ m with cur := ⟨(tickM m.cur.clock x.n).1, m.cur.streams⟩ }, 0) := by unfold tickMM; rw [hm, if_pos rfl, if_pos h0]
        rw [e]
        rw [h0] at ht
        generalize (tickM m.cur.clock x.n).1 = tc at *
        repeat (first | ((first | (apply Lq.s; rfl) | apply PRun.s | (apply Lq.run; rfl; rfl; rfl; exact bsB) | (apply PRun.run; rfl; rfl; exact bsB)); first | (apply op_box stepT; rfl) | (apply op_faddr step_kind; rfl; decide) | (apply op_faddr step_n; rfl; decide) | (apply op_faddr step_name; rfl; decide) | (apply op_faddr step_text; rfl; decide) | (apply op_load (intT .i64); rfl) | (apply op_load strT; rfl) | (apply op_load stepT; rfl) | (apply op_ocell; rfl; exact bsM; rfl) | (apply op_slen; rfl) | (exact bsO)) | apply J.seq | apply E.next | apply J.lq | apply Lq.nil | apply PRun.nil | apply J.block | apply E.in_normal | apply J.skip | (apply Lq.store; rfl; rfl; exact bsP; exact bsS; rfl; rfl) | (apply PRun.al; rfl) | (apply Lq.al; rfl; rfl; intro b) | (apply Open.cons; intro b) | apply Open.nil | (apply Lq.pass; rfl; rfl; rfl) | (apply PRun.pass; rfl; rfl) | (apply Lq.skip; rfl; rfl; rfl; exact bsB) | (apply PRun.skip; rfl; rfl; exact bsB) | (apply J.cond_t; rfl) | (apply J.cond_f; rfl) | apply J.exit | apply E.then_exit | apply E.in_exit | (apply E.in_other; rfl))
        refine J.drawW 13 [(none, none), (none, none), (none, none), (none, none), (none, none), (none, none), (none, none), (none, none), (none, none), (none, none), (none, none), (none, none), (none, none)] mixed (by kernel_rfl) ?_
        repeat (first | ((first | apply PRunW.s | (apply PRunW.run; rfl; rfl; exact bsB) | (apply Lq.s; rfl) | apply PRun.s | (apply Lq.run; rfl; rfl; rfl; exact bsB) | (apply PRun.run; rfl; rfl; exact bsB)); first | (apply op_box stepT; rfl) | (apply op_faddr step_kind; rfl; decide) | (apply op_faddr step_n; rfl; decide) | (apply op_faddr step_name; rfl; decide) | (apply op_faddr step_text; rfl; decide) | (apply op_load (intT .i64); rfl) | (apply op_load strT; rfl) | (apply op_load stepT; rfl) | (apply op_ocell; rfl; exact bsM; rfl) | (apply op_slen; rfl) | (apply op_call ht; exact bsD) | (exact bsO)) | apply J.seq | apply E.next | apply J.lq | apply Lq.nil | apply PRun.nil | apply J.block | apply E.in_normal | apply J.skip | (apply Lq.store; rfl; rfl; exact bsP; exact bsS; rfl; rfl) | (apply PRun.al; rfl) | (apply Lq.al; rfl; rfl; intro b) | (apply Open.cons; intro b) | apply Open.nil | (apply Lq.pass; rfl; rfl; rfl) | (apply PRun.pass; rfl; rfl) | (apply Lq.skip; rfl; rfl; rfl; exact bsB) | (apply PRun.skip; rfl; rfl; exact bsB) | (apply J.cond_t; rfl) | (apply J.cond_f; rfl) | apply J.exit | apply E.then_exit | apply E.in_exit | (apply E.in_other; rfl) | apply PRunW.nil | (apply PRunW.al; rfl) | (apply PRunW.pass; rfl; rfl) | (apply PRunW.skip; rfl; rfl; exact bsB) | (apply Open.pv; intro b) | apply Open.av | (apply Open.rv; intro A c))
        repeat (first | ((first | (apply Lq.s; rfl) | apply PRun.s | (apply Lq.run; rfl; rfl; rfl; exact bsB) | (apply PRun.run; rfl; rfl; exact bsB)); first | (exact bsO)) | apply J.seq | apply E.next | apply J.lq | apply Lq.nil | apply PRun.nil | apply J.block | apply E.in_normal | apply J.skip | (apply Lq.store; rfl; rfl; exact bsP; exact bsS; rfl; rfl) | (apply PRun.al; rfl) | (apply Lq.al; rfl; rfl; intro b) | (apply Open.cons; intro b) | apply Open.nil | (apply Lq.pass; rfl; rfl; rfl) | (apply PRun.pass; rfl; rfl) | (apply Lq.skip; rfl; rfl; rfl; exact bsB) | (apply PRun.skip; rfl; rfl; exact bsB) | (apply J.cond_t; rfl) | (apply J.cond_f; rfl) | apply J.exit | apply E.then_exit | apply E.in_exit | (apply E.in_other; rfl))
        (refine J.ret ?_; (repeat (first | refine E.then_ret ?_ | refine E.in_ret ?_)))
        exact E.retR3 (Δ' := mdl B { m with cur := ⟨tc, m.cur.streams⟩ } A1 c1 xs1 A2 c2 xs2) (G := []) rfl rfl rfl rfl ⟨rfl, _, _, _, _, _, _, hf, rfl⟩ (by rw [List.append_nil, mdl_eq, ← hD]; unfold mdC; rw [hm]; exact List.Perm.refl _)
      · have e : tickMM m x.n = (m, (tickM m.cur.clock x.n).2) := by unfold tickMM; rw [hm, if_pos rfl, if_neg h0]
        rw [e]
        generalize (tickM m.cur.clock x.n).1 = tc at *
        generalize (tickM m.cur.clock x.n).2 = te at *
        repeat (first | ((first | (apply Lq.s; rfl) | apply PRun.s | (apply Lq.run; rfl; rfl; rfl; exact bsB) | (apply PRun.run; rfl; rfl; exact bsB)); first | (apply op_box stepT; rfl) | (apply op_faddr step_kind; rfl; decide) | (apply op_faddr step_n; rfl; decide) | (apply op_faddr step_name; rfl; decide) | (apply op_faddr step_text; rfl; decide) | (apply op_load (intT .i64); rfl) | (apply op_load strT; rfl) | (apply op_load stepT; rfl) | (apply op_ocell; rfl; exact bsM; rfl) | (apply op_slen; rfl) | (exact bsO)) | apply J.seq | apply E.next | apply J.lq | apply Lq.nil | apply PRun.nil | apply J.block | apply E.in_normal | apply J.skip | (apply Lq.store; rfl; rfl; exact bsP; exact bsS; rfl; rfl) | (apply PRun.al; rfl) | (apply Lq.al; rfl; rfl; intro b) | (apply Open.cons; intro b) | apply Open.nil | (apply Lq.pass; rfl; rfl; rfl) | (apply PRun.pass; rfl; rfl) | (apply Lq.skip; rfl; rfl; rfl; exact bsB) | (apply PRun.skip; rfl; rfl; exact bsB) | (apply J.cond_t; rfl) | (apply J.cond_f; rfl) | apply J.exit | apply E.then_exit | apply E.in_exit | (apply E.in_other; rfl))
        refine J.drawW 13 [(none, none), (none, none), (none, none), (none, none), (none, none), (none, none), (none, none), (none, none), (none, none), (none, none), (none, none), (none, none), (none, none)] mixed (by kernel_rfl) ?_
        repeat (first | ((first | apply PRunW.s | (apply PRunW.run; rfl; rfl; exact bsB) | (apply Lq.s; rfl) | apply PRun.s | (apply Lq.run; rfl; rfl; rfl; exact bsB) | (apply PRun.run; rfl; rfl; exact bsB)); first | (apply op_box stepT; rfl) | (apply op_faddr step_kind; rfl; decide) | (apply op_faddr step_n; rfl; decide) | (apply op_faddr step_name; rfl; decide) | (apply op_faddr step_text; rfl; decide) | (apply op_load (intT .i64); rfl) | (apply op_load strT; rfl) | (apply op_load stepT; rfl) | (apply op_ocell; rfl; exact bsM; rfl) | (apply op_slen; rfl) | (apply op_call ht; exact bsD) | (exact bsO)) | apply J.seq | apply E.next | apply J.lq | apply Lq.nil | apply PRun.nil | apply J.block | apply E.in_normal | apply J.skip | (apply Lq.store; rfl; rfl; exact bsP; exact bsS; rfl; rfl) | (apply PRun.al; rfl) | (apply Lq.al; rfl; rfl; intro b) | (apply Open.cons; intro b) | apply Open.nil | (apply Lq.pass; rfl; rfl; rfl) | (apply PRun.pass; rfl; rfl) | (apply Lq.skip; rfl; rfl; rfl; exact bsB) | (apply PRun.skip; rfl; rfl; exact bsB) | (apply J.cond_t; rfl) | (apply J.cond_f; rfl) | apply J.exit | apply E.then_exit | apply E.in_exit | (apply E.in_other; rfl) | apply PRunW.nil | (apply PRunW.al; rfl) | (apply PRunW.pass; rfl; rfl) | (apply PRunW.skip; rfl; rfl; exact bsB) | (apply Open.pv; intro b) | apply Open.av | (apply Open.rv; intro A c))
        repeat (first | ((first | (apply Lq.s; rfl) | apply PRun.s | (apply Lq.run; rfl; rfl; rfl; exact bsB) | (apply PRun.run; rfl; rfl; exact bsB)); first | (exact bsO)) | apply J.seq | apply E.next | apply J.lq | apply Lq.nil | apply PRun.nil | apply J.block | apply E.in_normal | apply J.skip | (apply Lq.store; rfl; rfl; exact bsP; exact bsS; rfl; rfl) | (apply PRun.al; rfl) | (apply Lq.al; rfl; rfl; intro b) | (apply Open.cons; intro b) | apply Open.nil | (apply Lq.pass; rfl; rfl; rfl) | (apply PRun.pass; rfl; rfl) | (apply Lq.skip; rfl; rfl; rfl; exact bsB) | (apply PRun.skip; rfl; rfl; exact bsB) | (apply J.cond_t; rfl) | (apply J.cond_f; rfl) | apply J.exit | apply E.then_exit | apply E.in_exit | (apply E.in_other; rfl))
        (refine J.ret ?_; (repeat (first | refine E.then_ret ?_ | refine E.in_ret ?_)))
        exact E.retR3 (Δ' := mdl B m A1 c1 xs1 A2 c2 xs2) (G := []) rfl rfl rfl rfl ⟨rfl, hback ▸ hmd⟩ (by rw [List.append_nil, ← hback]; unfold mdC; rw [hm]; exact List.Perm.refl _)
  rw [if_neg k11]
  by_cases kk : x.kind = 5 ∨ x.kind = 7 ∨ x.kind = 8 ∨ x.kind = 9 ∨ x.kind = 10
  · rw [if_pos kk]
    have hh := mof_fnR (B := B) (A1 := A1) (c1 := c1) (A2 := A2) (c2 := c2) x full hf hk kk
    generalize ofM m x full = q at *
    rcases kk with k5 | k5 | k5 | k5 | k5
    all_goals
      repeat (first | ((first | (apply Lq.s; rfl) | apply PRun.s | (apply Lq.run; rfl; rfl; rfl; exact bsB) | (apply PRun.run; rfl; rfl; exact bsB)); first | (apply op_box stepT; rfl) | (apply op_faddr step_kind; rfl; decide) | (apply op_faddr step_n; rfl; decide) | (apply op_faddr step_name; rfl; decide) | (apply op_faddr step_text; rfl; decide) | (apply op_load (intT .i64); rfl) | (apply op_load strT; rfl) | (apply op_load stepT; rfl) | (exact bsO)) | apply J.seq | apply E.next | apply J.lq | apply Lq.nil | apply PRun.nil | apply J.block | apply E.in_normal | apply J.skip | (apply Lq.store; rfl; rfl; exact bsP; exact bsS; rfl; rfl) | (apply PRun.al; rfl) | (apply Lq.al; rfl; rfl; intro b) | (apply Open.cons; intro b) | apply Open.nil | (apply Lq.pass; rfl; rfl; rfl) | (apply PRun.pass; rfl; rfl) | (apply Lq.skip; rfl; rfl; rfl; exact bsB) | (apply PRun.skip; rfl; rfl; exact bsB) | (apply J.cond_t; rfl) | (apply J.cond_f; rfl) | apply J.exit | apply E.then_exit | apply E.in_exit | (apply E.in_other; rfl))
      refine Lq.callS (Δ0 := mdl B m A1 c1 xs1 A2 c2 xs2) (Δf := []) hh rfl bsD (by rw [List.append_nil, ← hback]; exact List.Perm.refl _) ?_
      rintro _ D2 ⟨rfl, hV⟩
      rw [List.append_nil]
      repeat (first | ((first | (apply Lq.s; rfl) | apply PRun.s | (apply Lq.run; rfl; rfl; rfl; exact bsB) | (apply PRun.run; rfl; rfl; exact bsB)); first | (exact bsO)) | apply J.seq | apply E.next | apply J.lq | apply Lq.nil | apply PRun.nil | apply J.block | apply E.in_normal | apply J.skip | (apply Lq.store; rfl; rfl; exact bsP; exact bsS; rfl; rfl) | (apply PRun.al; rfl) | (apply Lq.al; rfl; rfl; intro b) | (apply Open.cons; intro b) | apply Open.nil | (apply Lq.pass; rfl; rfl; rfl) | (apply PRun.pass; rfl; rfl) | (apply Lq.skip; rfl; rfl; rfl; exact bsB) | (apply PRun.skip; rfl; rfl; exact bsB) | (apply J.cond_t; rfl) | (apply J.cond_f; rfl) | apply J.exit | apply E.then_exit | apply E.in_exit | (apply E.in_other; rfl))
      (refine J.ret ?_; (repeat (first | refine E.then_ret ?_ | refine E.in_ret ?_)))
      exact E.retR3 (G := []) rfl rfl rfl rfl ⟨rfl, hV⟩ (by rw [List.append_nil])
  · rw [if_neg kk]
    repeat (first | ((first | (apply Lq.s; rfl) | apply PRun.s | (apply Lq.run; rfl; rfl; rfl; exact bsB) | (apply PRun.run; rfl; rfl; exact bsB)); first | (apply op_box stepT; rfl) | (apply op_faddr step_kind; rfl; decide) | (apply op_faddr step_n; rfl; decide) | (apply op_faddr step_name; rfl; decide) | (apply op_faddr step_text; rfl; decide) | (apply op_load (intT .i64); rfl) | (apply op_load strT; rfl) | (apply op_load stepT; rfl) | (exact bsO)) | apply J.seq | apply E.next | apply J.lq | apply Lq.nil | apply PRun.nil | apply J.block | apply E.in_normal | apply J.skip | (apply Lq.store; rfl; rfl; exact bsP; exact bsS; rfl; rfl) | (apply PRun.al; rfl) | (apply Lq.al; rfl; rfl; intro b) | (apply Open.cons; intro b) | apply Open.nil | (apply Lq.pass; rfl; rfl; rfl) | (apply PRun.pass; rfl; rfl) | (apply Lq.skip; rfl; rfl; rfl; exact bsB) | (apply PRun.skip; rfl; rfl; exact bsB) | (apply J.cond_t; rfl) | (apply J.cond_f; rfl) | apply J.exit | apply E.then_exit | apply E.in_exit | (apply E.in_other; rfl))
    (refine J.ret ?_; (repeat (first | refine E.then_ret ?_ | refine E.in_ret ?_)))
    exact E.retR3 (Δ' := mdl B m A1 c1 xs1 A2 c2 xs2) (G := []) rfl rfl rfl rfl ⟨rfl, hback ▸ hmd⟩ (by rw [List.append_nil, ← hback]; exact List.Perm.refl _)
end Go.Proofs.YtljbbajelkkafaaDoor.L
