/-
  The laws of streams, walked: StreamsHolds.
-/
import Derived.Test.YtafbkgijahinkaaNp
import Derived.Test.YtafbkgijahinkaaNm
namespace Go.Proofs.Ytafbkgijahinkaa.L
open Go
set_option linter.unusedSectionVars false
variable [Globs]
set_option linter.unusedVariables false
set_option linter.unusedVariables false
set_option linter.unusedSimpArgs false
attribute [local irreducible] J Lq E OpP PRun is any agg tup ptr sl PRunW OpE
attribute [local irreducible] slt nameE lowerN cloT cntM recOk row tB checkM applyM errM resM lvs liveN beyondM longB newM
def eh16 (k : Int) (x : Str) : EntryS := ⟨k, 0, 0, 0, x, zeroH, ⟨0, 0⟩⟩
set_option maxHeartbeats 4000000 in
theorem streamsHolds (s : StreamS) (x : Str) (hx : StreamOkF s) (hx2 : x.length ≤ maxLen) : Fn Try.prog 4 [streamT.val s, is (str x)] (is (.bool true)) := by
  have hbf := beyond_fn s hx.1
  cases hb : beyondM s
  case true =>
    rw [hb] at hbf
    refine Fn.mk' 87 Try.func4 rfl rfl rfl rfl fun w0 H0 => ?_
    repeat (first | ((first | (apply Lq.s; rfl) | apply PRun.s | (apply Lq.run; rfl; rfl; rfl; exact bsB) | (apply PRun.run; rfl; rfl; exact bsB)); first | (apply op_box streamT; rfl) | (apply op_faddr stream_name; rfl; decide) | (apply op_faddr stream_retain; rfl; decide) | (apply op_faddr stream_holds; rfl; decide) | (apply op_faddr stream_recs; rfl; decide) | (apply op_load strT; rfl) | (apply op_load (intT .i64); rfl) | (apply op_load (slT strT); rfl) | (apply op_load (slT recT); rfl) | (apply op_load streamT; rfl) | (apply op_len (xs := s.recs); rfl) | (apply op_len (xs := s.holds); rfl) | (apply op_box entryT; rfl) | (apply op_faddr entry_kind; rfl; decide) | (apply op_faddr entry_n; rfl; decide) | (apply op_faddr entry_len; rfl; decide) | (apply op_faddr entry_name; rfl; decide) | (apply op_load entryT; rfl) | (apply op_call lives16_fn; exact bsD) | (apply op_call hbf; exact bsD) | (exact bsO)) | apply J.seq | apply E.next | apply J.lq | apply Lq.nil | apply PRun.nil | apply J.block | apply E.in_normal | apply J.skip | (apply Lq.store; rfl; rfl; exact bsP; exact bsS; rfl; rfl) | (apply PRun.al; rfl) | (apply Lq.al; rfl; rfl; intro b) | (apply Open.cons; intro b) | apply Open.nil | (apply Lq.pass; rfl; rfl; rfl) | (apply PRun.pass; rfl; rfl) | (apply Lq.skip; rfl; rfl; rfl; exact bsB) | (apply PRun.skip; rfl; rfl; exact bsB) | (apply J.drawN; exact mixed; kernel_rfl) | (apply J.cond_t; rfl) | (apply J.cond_f; rfl) | apply J.exit | apply E.then_exit | apply E.in_exit | (apply E.in_other; rfl))
    (refine J.ret ?_; (repeat (first | refine E.then_ret ?_ | refine E.in_ret ?_)))
    exact E.ret1 rfl rfl
  rw [hb] at hbf
  obtain ⟨b1, b2, _, _⟩ := beyondM_f hb
  have hlf := long_fn x
  cases hl : longB x
  case true =>
    rw [hl] at hlf
    refine Fn.mk' 87 Try.func4 rfl rfl rfl rfl fun w0 H0 => ?_
    repeat (first | ((first | (apply Lq.s; rfl) | apply PRun.s | (apply Lq.run; rfl; rfl; rfl; exact bsB) | (apply PRun.run; rfl; rfl; exact bsB)); first | (apply op_box streamT; rfl) | (apply op_faddr stream_name; rfl; decide) | (apply op_faddr stream_retain; rfl; decide) | (apply op_faddr stream_holds; rfl; decide) | (apply op_faddr stream_recs; rfl; decide) | (apply op_load strT; rfl) | (apply op_load (intT .i64); rfl) | (apply op_load (slT strT); rfl) | (apply op_load (slT recT); rfl) | (apply op_load streamT; rfl) | (apply op_len (xs := s.recs); rfl) | (apply op_len (xs := s.holds); rfl) | (apply op_box entryT; rfl) | (apply op_faddr entry_kind; rfl; decide) | (apply op_faddr entry_n; rfl; decide) | (apply op_faddr entry_len; rfl; decide) | (apply op_faddr entry_name; rfl; decide) | (apply op_load entryT; rfl) | (apply op_call lives16_fn; exact bsD) | (apply op_call hbf; exact bsD) | (apply op_call hlf; exact bsD) | (exact bsO)) | apply J.seq | apply E.next | apply J.lq | apply Lq.nil | apply PRun.nil | apply J.block | apply E.in_normal | apply J.skip | (apply Lq.store; rfl; rfl; exact bsP; exact bsS; rfl; rfl) | (apply PRun.al; rfl) | (apply Lq.al; rfl; rfl; intro b) | (apply Open.cons; intro b) | apply Open.nil | (apply Lq.pass; rfl; rfl; rfl) | (apply PRun.pass; rfl; rfl) | (apply Lq.skip; rfl; rfl; rfl; exact bsB) | (apply PRun.skip; rfl; rfl; exact bsB) | (apply J.drawN; exact mixed; kernel_rfl) | (apply J.cond_t; rfl) | (apply J.cond_f; rfl) | apply J.exit | apply E.then_exit | apply E.in_exit | (apply E.in_other; rfl))
    (refine J.ret ?_; (repeat (first | refine E.then_ret ?_ | refine E.in_ret ?_)))
    exact E.ret1 rfl rfl
  rw [hl] at hlf
  have ha := apply_fn s (eh16 4 x) (by omega) (by omega)
  by_cases h0 : (applyM s (eh16 4 x)).2 = 0
  case neg =>
    have hz := applyM_err h0
    rw [hz] at ha
    generalize (applyM s (eh16 4 x)).2 = q at *
    have hsf := sameStream_fn zeroS zeroS (by decide) (by decide)
    rw [decide_eq_true (show zeroS = zeroS from rfl)] at hsf
    refine Fn.mk' 87 Try.func4 rfl rfl rfl rfl fun w0 H0 => ?_
    repeat (first | ((first | (apply Lq.s; rfl) | apply PRun.s | (apply Lq.run; rfl; rfl; rfl; exact bsB) | (apply PRun.run; rfl; rfl; exact bsB)); first | (apply op_box streamT; rfl) | (apply op_faddr stream_name; rfl; decide) | (apply op_faddr stream_retain; rfl; decide) | (apply op_faddr stream_holds; rfl; decide) | (apply op_faddr stream_recs; rfl; decide) | (apply op_load strT; rfl) | (apply op_load (intT .i64); rfl) | (apply op_load (slT strT); rfl) | (apply op_load (slT recT); rfl) | (apply op_load streamT; rfl) | (apply op_len (xs := s.recs); rfl) | (apply op_len (xs := s.holds); rfl) | (apply op_box entryT; rfl) | (apply op_faddr entry_kind; rfl; decide) | (apply op_faddr entry_n; rfl; decide) | (apply op_faddr entry_len; rfl; decide) | (apply op_faddr entry_name; rfl; decide) | (apply op_load entryT; rfl) | (apply op_call lives16_fn; exact bsD) | (apply op_call hbf; exact bsD) | (apply op_call hlf; exact bsD) | (apply op_buildT entryT (eh16 4 x); rfl; rfl; (repeat (first | exact BP.nil _ | (apply BP.cons; rfl; rfl; exact bsS; rfl; rfl))); rfl) | (apply op_call ha; exact bsD) | (apply op_oload streamT (x := zeroS); rfl; exact bsM; rfl) | (apply op_zeroS; rfl; rfl) | (apply op_call hsf; exact bsD) | (exact bsO)) | apply J.seq | apply E.next | apply J.lq | apply Lq.nil | apply PRun.nil | apply J.block | apply E.in_normal | apply J.skip | (apply Lq.store; rfl; rfl; exact bsP; exact bsS; rfl; rfl) | (apply PRun.al; rfl) | (apply Lq.al; rfl; rfl; intro b) | (apply Open.cons; intro b) | apply Open.nil | (apply Lq.pass; rfl; rfl; rfl) | (apply PRun.pass; rfl; rfl) | (apply Lq.skip; rfl; rfl; rfl; exact bsB) | (apply PRun.skip; rfl; rfl; exact bsB) | (apply J.drawN; exact mixed; kernel_rfl) | (apply J.cond_t; rfl) | (apply J.cond_f; rfl) | apply J.exit | apply E.then_exit | apply E.in_exit | (apply E.in_other; rfl))
    (refine J.ret ?_; (repeat (first | refine E.then_ret ?_ | refine E.in_ret ?_)))
    exact E.ret1 rfl rfl
  obtain ⟨hc, he, hr⟩ := applyM_ok h0
  have hres := check_res hc he
  obtain ⟨_, _, ⟨_, hasc, _⟩, _, _, _⟩ := checkM_iff.1 hc
  have hrm : resM s (eh16 4 x) = { s with holds := addM s.holds x } := by unfold resM; rfl
  have hnm : x ∉ s.holds := fun hm => by
    have : errM s (eh16 4 x) = errHold s.holds x := by unfold errM; rfl
    rw [this] at he
    unfold errHold at he
    rw [if_pos hm] at he
    split at he <;> cases he
  have hasc2 := addM_asc hasc hnm
  have hal := addM_len s.holds x
  rw [hrm] at hres hr
  rw [h0, hr] at ha
  have hb2 := apply_fn { s with holds := addM s.holds x } (eh16 5 x) (by show (addM s.holds x).length ≤ _; omega) (by show s.recs.length ≤ _; omega)
  have hap : applyM { s with holds := addM s.holds x } (eh16 5 x) = (s, 0) := by
    have e1 : errM { s with holds := addM s.holds x } (eh16 5 x) = 0 := by
      have e1 : errM { s with holds := addM s.holds x } (eh16 5 x) = (if x ∈ addM s.holds x then 0 else 143) := by unfold errM; rfl
      rw [e1, if_pos (addM_mem.2 (.inl rfl))]
    have e2 : resM { s with holds := addM s.holds x } (eh16 5 x) = { s with holds := remM (addM s.holds x) x } := by unfold resM; rfl
    unfold applyM
    rw [if_pos hres, if_pos e1, e2, rem_add hasc hnm]
  rw [hap] at hb2
  have hsf := sameStream_fn s s ⟨by omega, by omega⟩ ⟨by omega, by omega⟩
  rw [decide_eq_true (show s = s from rfl)] at hsf
  have h1 := has_fn (addM s.holds x) x (by omega)
  rw [hasc2, decide_eq_true (addM_mem.2 (.inl rfl))] at h1
  have h2 := has_fn s.holds x (by omega)
  rw [decide_eq_false hnm, Bool.and_false] at h2
  have h3 : ∀ y ∈ s.holds, Fn Try.prog 14 [sl strT.toTy (addM s.holds x), is (str y)] (is (.bool true)) := fun y hy => by
    have h3 := has_fn (addM s.holds x) y (by omega)
    rw [hasc2, decide_eq_true (addM_mem.2 (.inr hy))] at h3
    exact h3
  clear hap hrm hr hres hasc2 hc he h0
  generalize addM s.holds x = m at *
  refine Fn.mk' 87 Try.func4 rfl rfl rfl rfl fun w0 H0 => ?_
  repeat (first | ((first | (apply Lq.s; rfl) | apply PRun.s | (apply Lq.run; rfl; rfl; rfl; exact bsB) | (apply PRun.run; rfl; rfl; exact bsB)); first | (apply op_box streamT; rfl) | (apply op_faddr stream_name; rfl; decide) | (apply op_faddr stream_retain; rfl; decide) | (apply op_faddr stream_holds; rfl; decide) | (apply op_faddr stream_recs; rfl; decide) | (apply op_load strT; rfl) | (apply op_load (intT .i64); rfl) | (apply op_load (slT strT); rfl) | (apply op_load (slT recT); rfl) | (apply op_load streamT; rfl) | (apply op_len (xs := s.recs); rfl) | (apply op_len (xs := s.holds); rfl) | (apply op_box entryT; rfl) | (apply op_faddr entry_kind; rfl; decide) | (apply op_faddr entry_n; rfl; decide) | (apply op_faddr entry_len; rfl; decide) | (apply op_faddr entry_name; rfl; decide) | (apply op_load entryT; rfl) | (apply op_call lives16_fn; exact bsD) | (apply op_call hbf; exact bsD) | (apply op_call hlf; exact bsD) | (apply op_buildT entryT (eh16 4 x); rfl; rfl; (repeat (first | exact BP.nil _ | (apply BP.cons; rfl; rfl; exact bsS; rfl; rfl))); rfl) | (apply op_call ha; exact bsD) | (exact bsO)) | apply J.seq | apply E.next | apply J.lq | apply Lq.nil | apply PRun.nil | apply J.block | apply E.in_normal | apply J.skip | (apply Lq.store; rfl; rfl; exact bsP; exact bsS; rfl; rfl) | (apply PRun.al; rfl) | (apply Lq.al; rfl; rfl; intro b) | (apply Open.cons; intro b) | apply Open.nil | (apply Lq.pass; rfl; rfl; rfl) | (apply PRun.pass; rfl; rfl) | (apply Lq.skip; rfl; rfl; rfl; exact bsB) | (apply PRun.skip; rfl; rfl; exact bsB) | (apply J.cond_t; rfl) | (apply J.cond_f; rfl) | apply J.exit | apply E.then_exit | apply E.in_exit | (apply E.in_other; rfl))
  revert b
  intro b5
  refine Lq.res1 (r' := own b5 25 (streamT.cells { s with holds := m })) (by exact bsP) (fun H w h => ⟨h, rfl⟩) ?_
  refine Lq.frzB 5 rfl (List.Perm.refl _) ?_
  repeat (first | ((first | (apply Lq.s; rfl) | apply PRun.s | (apply Lq.run; rfl; rfl; rfl; exact bsB) | (apply PRun.run; rfl; rfl; exact bsB)); first | (apply op_box streamT; rfl) | (apply op_faddr stream_name; rfl; decide) | (apply op_faddr stream_retain; rfl; decide) | (apply op_faddr stream_holds; rfl; decide) | (apply op_faddr stream_recs; rfl; decide) | (apply op_load strT; rfl) | (apply op_load (intT .i64); rfl) | (apply op_load (slT strT); rfl) | (apply op_load (slT recT); rfl) | (apply op_load streamT; rfl) | (apply op_len (xs := s.recs); rfl) | (apply op_len (xs := s.holds); rfl) | (apply op_box entryT; rfl) | (apply op_faddr entry_kind; rfl; decide) | (apply op_faddr entry_n; rfl; decide) | (apply op_faddr entry_len; rfl; decide) | (apply op_faddr entry_name; rfl; decide) | (apply op_load entryT; rfl) | (apply op_call lives16_fn; exact bsD) | (apply op_buildT entryT (eh16 5 x); rfl; rfl; (repeat (first | exact BP.nil _ | (apply BP.cons; rfl; rfl; exact bsS; rfl; rfl))); rfl) | (apply op_call hb2; exact bsD) | (exact bsO)) | apply J.seq | apply E.next | apply J.lq | apply Lq.nil | apply PRun.nil | apply J.block | apply E.in_normal | apply J.skip | (apply Lq.store; rfl; rfl; exact bsP; exact bsS; rfl; rfl) | (apply PRun.al; rfl) | (apply Lq.al; rfl; rfl; intro b) | (apply Open.cons; intro b) | apply Open.nil | (apply Lq.pass; rfl; rfl; rfl) | (apply PRun.pass; rfl; rfl) | (apply Lq.skip; rfl; rfl; rfl; exact bsB) | (apply PRun.skip; rfl; rfl; exact bsB) | (apply J.cond_t; rfl) | (apply J.cond_f; rfl) | apply J.exit | apply E.then_exit | apply E.in_exit | (apply E.in_other; rfl))
  revert b
  intro b7
  refine Lq.res1 (r' := own b7 25 (streamT.cells s)) (by exact bsP) (fun H w h => ⟨h, rfl⟩) ?_
  refine Lq.frzB 7 rfl (List.Perm.refl _) ?_
  repeat (first | ((first | (apply Lq.s; rfl) | apply PRun.s | (apply Lq.run; rfl; rfl; rfl; exact bsB) | (apply PRun.run; rfl; rfl; exact bsB)); first | (apply op_box streamT; rfl) | (apply op_faddr stream_name; rfl; decide) | (apply op_faddr stream_retain; rfl; decide) | (apply op_faddr stream_holds; rfl; decide) | (apply op_faddr stream_recs; rfl; decide) | (apply op_load strT; rfl) | (apply op_load (intT .i64); rfl) | (apply op_load (slT strT); rfl) | (apply op_load (slT recT); rfl) | (apply op_load streamT; rfl) | (apply op_len (xs := s.recs); rfl) | (apply op_len (xs := s.holds); rfl) | (apply op_box entryT; rfl) | (apply op_faddr entry_kind; rfl; decide) | (apply op_faddr entry_n; rfl; decide) | (apply op_faddr entry_len; rfl; decide) | (apply op_faddr entry_name; rfl; decide) | (apply op_load entryT; rfl) | (apply op_call lives16_fn; exact bsD) | (apply op_call hsf; exact bsD) | (apply op_call h1; exact bsD) | (apply op_call h2; exact bsD) | (apply op_len (xs := m); rfl) | (apply op_add (c := ((s.holds.length + 1 : Nat) : Int)); rfl; rfl; (rw [show (s.holds.length : Int) + 1 = ((s.holds.length + 1 : Nat) : Int) by omega]; apply wrapi <;> omega)) | (exact bsO)) | apply J.seq | apply E.next | apply J.lq | apply Lq.nil | apply PRun.nil | apply J.block | apply E.in_normal | apply J.skip | (apply Lq.store; rfl; rfl; exact bsP; exact bsS; rfl; rfl) | (apply PRun.al; rfl) | (apply Lq.al; rfl; rfl; intro b) | (apply Open.cons; intro b) | apply Open.nil | (apply Lq.pass; rfl; rfl; rfl) | (apply PRun.pass; rfl; rfl) | (apply Lq.skip; rfl; rfl; rfl; exact bsB) | (apply PRun.skip; rfl; rfl; exact bsB) | (apply J.cond_t; rfl) | (apply J.cond_f; rfl) | apply J.exit | apply E.then_exit | apply E.in_exit | (apply E.in_other; rfl))
  refine J.loop (fun i : Nat => i ≤ s.holds.length) (fun i => [(2, ptr (streamT.cells s)), (5, ptr (streamT.cells { s with holds := m })), (9, is (.int .i64 (i : Int)))]) (fun _ => []) (fun i => s.holds.length - i) 0 (Nat.zero_le _) ⟨(by repeat' (first | exact trivial | refine ⟨rfl, ?_⟩)), [], List.Perm.refl _⟩ ?_
  rintro i hi
  by_cases hlt : i < s.holds.length
  · obtain ⟨q, hq⟩ : ∃ q, s.holds[i]? = some q := ⟨_, List.getElem?_eq_getElem hlt⟩
    have h3 := h3 q (List.mem_of_getElem? hq)
    repeat (first | ((first | (apply Lq.s; rfl) | apply PRun.s | (apply Lq.run; rfl; rfl; rfl; exact bsB) | (apply PRun.run; rfl; rfl; exact bsB)); first | (apply op_box streamT; rfl) | (apply op_faddr stream_name; rfl; decide) | (apply op_faddr stream_retain; rfl; decide) | (apply op_faddr stream_holds; rfl; decide) | (apply op_faddr stream_recs; rfl; decide) | (apply op_load strT; rfl) | (apply op_load (intT .i64); rfl) | (apply op_load (slT strT); rfl) | (apply op_load (slT recT); rfl) | (apply op_load streamT; rfl) | (apply op_len (xs := s.recs); rfl) | (apply op_len (xs := s.holds); rfl) | (apply op_box entryT; rfl) | (apply op_faddr entry_kind; rfl; decide) | (apply op_faddr entry_n; rfl; decide) | (apply op_faddr entry_len; rfl; decide) | (apply op_faddr entry_name; rfl; decide) | (apply op_load entryT; rfl) | (apply op_call lives16_fn; exact bsD) | (apply op_iaddr strT.toTy (x := q); rfl; rfl; exact Int.natCast_nonneg _; (rw [Int.toNat_natCast]; exact hq)) | (apply op_call h3; exact bsD) | (exact bsO)) | apply J.seq | apply E.next | apply J.lq | apply Lq.nil | apply PRun.nil | apply J.block | apply E.in_normal | apply J.skip | (apply Lq.store; rfl; rfl; exact bsP; exact bsS; rfl; rfl) | (apply PRun.al; rfl) | (apply Lq.al; rfl; rfl; intro b) | (apply Open.cons; intro b) | apply Open.nil | (apply Lq.pass; rfl; rfl; rfl) | (apply PRun.pass; rfl; rfl) | (apply Lq.skip; rfl; rfl; rfl; exact bsB) | (apply PRun.skip; rfl; rfl; exact bsB) | (apply J.drawN; exact mixed; kernel_rfl) | (apply J.cond_t; rfl) | (apply J.cond_f; rfl) | apply J.exit | apply E.then_exit | apply E.in_exit | (apply E.in_other; rfl))
    exact E.again (i + 1) (by omega) (by omega) ⟨(by repeat' (first | exact trivial | refine ⟨rfl, ?_⟩)), [], List.Perm.refl _⟩
  · repeat (first | ((first | (apply Lq.s; rfl) | apply PRun.s | (apply Lq.run; rfl; rfl; rfl; exact bsB) | (apply PRun.run; rfl; rfl; exact bsB)); first | (apply op_box streamT; rfl) | (apply op_faddr stream_name; rfl; decide) | (apply op_faddr stream_retain; rfl; decide) | (apply op_faddr stream_holds; rfl; decide) | (apply op_faddr stream_recs; rfl; decide) | (apply op_load strT; rfl) | (apply op_load (intT .i64); rfl) | (apply op_load (slT strT); rfl) | (apply op_load (slT recT); rfl) | (apply op_load streamT; rfl) | (apply op_len (xs := s.recs); rfl) | (apply op_len (xs := s.holds); rfl) | (apply op_box entryT; rfl) | (apply op_faddr entry_kind; rfl; decide) | (apply op_faddr entry_n; rfl; decide) | (apply op_faddr entry_len; rfl; decide) | (apply op_faddr entry_name; rfl; decide) | (apply op_load entryT; rfl) | (apply op_call lives16_fn; exact bsD) | (exact bsO)) | apply J.seq | apply E.next | apply J.lq | apply Lq.nil | apply PRun.nil | apply J.block | apply E.in_normal | apply J.skip | (apply Lq.store; rfl; rfl; exact bsP; exact bsS; rfl; rfl) | (apply PRun.al; rfl) | (apply Lq.al; rfl; rfl; intro b) | (apply Open.cons; intro b) | apply Open.nil | (apply Lq.pass; rfl; rfl; rfl) | (apply PRun.pass; rfl; rfl) | (apply Lq.skip; rfl; rfl; rfl; exact bsB) | (apply PRun.skip; rfl; rfl; exact bsB) | (apply J.drawN; exact mixed; kernel_rfl) | (apply J.cond_t; rfl) | (apply J.cond_f; rfl) | apply J.exit | apply E.then_exit | apply E.in_exit | (apply E.in_other; rfl))
    (refine J.ret ?_; (repeat (first | refine E.then_ret ?_ | refine E.in_ret ?_)))
    exact E.ret1 rfl rfl
end Go.Proofs.Ytafbkgijahinkaa.L
