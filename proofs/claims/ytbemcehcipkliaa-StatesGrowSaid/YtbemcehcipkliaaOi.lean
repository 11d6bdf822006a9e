/-
  The laws of states, walked: StatesFind, StatesApart, StatesParts.
-/
import Derived.Test.YtbemcehcipkliaaOh
namespace Go.Proofs.Ytbemcehcipkliaa.L
open Go
set_option linter.unusedSectionVars false
variable [Globs]
set_option linter.unusedVariables false
theorem goodB {t : StateS} (hx : StateOk t) (hb : beyondT t = false) : GoodT t := by
  unfold beyondT at hb
  rw [Bool.or_eq_false_iff, decide_eq_false_iff_not, List.any_eq_false] at hb
  refine ⟨by omega, fun x hm => ?_⟩
  have h := hb.2 x hm
  have h2 : beyondM x = false := by cases k : beyondM x with | false => rfl | true => exact absurd k h
  have := beyondM_f h2
  exact ⟨hx.2.2 x hm, by omega, by omega⟩
theorem any_take {α : Type} {p : α → Bool} {l : List α} {i : Nat} {x : α} (h : l[i]? = some x) : (l.take (i + 1)).any p = ((l.take i).any p || p x) := by
  rw [List.take_add_one, h, List.any_append]
  simp
theorem apply_clock {t : StateS} {e : EntryS} (h : (applyS t e).2 = 0) : (applyS t e).1.clock = t.clock := by
  obtain ⟨_, ⟨_, _, _, h1⟩ | ⟨_, _, _, x, _, _, h1⟩⟩ := applyS_ok h <;> rw [h1]
theorem fold_clock : ∀ (l : List EntryS) (t : StateS), (foldS t l).2 = 0 → (foldS t l).1.clock = t.clock
  | [], t, _ => rfl
  | e :: l, t, h => by
    unfold foldS at h ⊢
    split
    · rename_i h0
      rw [if_pos h0] at h
      exact (fold_clock l _ h).trans (apply_clock h0)
    · rename_i h0
      rw [if_neg h0] at h
      exact absurd h h0
theorem allS_part1 {t : StateS} {l : List EntryS} {c : Int} (k : Nat) (h : (allS t (l.take k) c).2 ≠ 0) : allS t l c = (zeroT, (allS t (l.take k) c).2) := by
  unfold allS at h ⊢
  split
  · rename_i h0
    rw [if_pos h0] at h
    have := foldS_app (l.take k) (l.drop k) { t with clock := c }
    rw [List.take_append_drop, if_neg h] at this
    exact this
  · rfl
theorem allS_same {b : StateS} {l : List EntryS} (h : checkS b = true) : allS b l b.clock = foldS b l := by
  have h1 := (checkS_iff.1 h).1
  unfold tB at h1
  simp only [Bool.and_eq_true, decide_eq_true_eq] at h1
  unfold allS
  rw [if_pos ⟨h, Int.le_refl _, h1.2⟩]
theorem allS_part2 {t : StateS} {l : List EntryS} {c : Int} (k : Nat) (h : (allS t (l.take k) c).2 = 0) : allS (allS t (l.take k) c).1 (l.drop k) (allS t (l.take k) c).1.clock = allS t l c := by
  obtain ⟨h1, h2, h3, h4, h5⟩ := allS_check h
  have e1 : allS t l c = foldS { t with clock := c } l := by unfold allS; rw [if_pos ⟨h1, h2, h3⟩]
  rw [allS_same h5, e1]
  have := foldS_app (l.take k) (l.drop k) { t with clock := c }
  rw [h4] at h ⊢
  rw [List.take_append_drop, if_pos h] at this
  exact this.symm
set_option linter.unusedVariables false
set_option linter.unusedSimpArgs false
attribute [local irreducible] J Lq E OpP PRun is any agg tup ptr sl PRunW OpE
attribute [local irreducible] slt nameE lowerN cloT cntM recOk row tB checkM applyM errM resM beyondM longB newM lastT checkS applyS findI foldS allS all2B rr runsM grownM longerS beyondT beyondE
set_option maxHeartbeats 4000000 in
theorem statesFind (t : StateS) (x : Str) (hx : StateOk t) (hx2 : x.length ≤ maxLen) : Fn Try.prog 6 [stateT.val t, is (str x)] (is (.bool true)) := by
  unfold maxLen at hx2
  have hbf := beyond17_fn t hx
  cases hb : beyondT t
  case true =>
    rw [hb] at hbf
    refine Fn.mk' 79 Try.func6 rfl rfl rfl rfl fun w0 H0 => ?_
    repeat (first | ((first | (apply Lq.s; rfl) | apply PRun.s | (apply Lq.run; rfl; rfl; rfl; exact bsB) | (apply PRun.run; rfl; rfl; exact bsB)); first | (apply op_box stateT; rfl) | (apply op_faddr state_clock; rfl; decide) | (apply op_faddr state_streams; rfl; decide) | (apply op_load (intT .i64); rfl) | (apply op_load (slT streamT); rfl) | (apply op_load stateT; rfl) | (apply op_load streamT; rfl) | (apply op_len (xs := t.streams); rfl) | (apply op_call lives17_fn; exact bsD) | (apply op_call hbf; exact bsD) | (exact bsO)) | apply J.seq | apply E.next | apply J.lq | apply Lq.nil | apply PRun.nil | apply J.block | apply E.in_normal | apply J.skip | (apply Lq.store; rfl; rfl; exact bsP; exact bsS; rfl; rfl) | (apply PRun.al; rfl) | (apply Lq.al; rfl; rfl; intro b) | (apply Open.cons; intro b) | apply Open.nil | (apply Lq.pass; rfl; rfl; rfl) | (apply PRun.pass; rfl; rfl) | (apply Lq.skip; rfl; rfl; rfl; exact bsB) | (apply PRun.skip; rfl; rfl; exact bsB) | (apply J.drawN; exact mixed; kernel_rfl) | (apply J.cond_t; rfl) | (apply J.cond_f; rfl) | apply J.exit | apply E.then_exit | apply E.in_exit | (apply E.in_other; rfl))
    (refine J.ret ?_; (repeat (first | refine E.then_ret ?_ | refine E.in_ret ?_)))
    exact E.ret1 rfl rfl
  rw [hb] at hbf
  have hg := goodB hx hb
  have hlg := hg.1
  by_cases hl : 100 < x.length
  · refine Fn.mk' 79 Try.func6 rfl rfl rfl rfl fun w0 H0 => ?_
    repeat (first | ((first | (apply Lq.s; rfl) | apply PRun.s | (apply Lq.run; rfl; rfl; rfl; exact bsB) | (apply PRun.run; rfl; rfl; exact bsB)); first | (apply op_box stateT; rfl) | (apply op_faddr state_clock; rfl; decide) | (apply op_faddr state_streams; rfl; decide) | (apply op_load (intT .i64); rfl) | (apply op_load (slT streamT); rfl) | (apply op_load stateT; rfl) | (apply op_load streamT; rfl) | (apply op_len (xs := t.streams); rfl) | (apply op_call lives17_fn; exact bsD) | (apply op_call hbf; exact bsD) | (exact bsO)) | apply J.seq | apply E.next | apply J.lq | apply Lq.nil | apply PRun.nil | apply J.block | apply E.in_normal | apply J.skip | (apply Lq.store; rfl; rfl; exact bsP; exact bsS; rfl; rfl) | (apply PRun.al; rfl) | (apply Lq.al; rfl; rfl; intro b) | (apply Open.cons; intro b) | apply Open.nil | (apply Lq.pass; rfl; rfl; rfl) | (apply PRun.pass; rfl; rfl) | (apply Lq.skip; rfl; rfl; rfl; exact bsB) | (apply PRun.skip; rfl; rfl; exact bsB) | (apply J.drawN; exact mixed; kernel_rfl) | (apply J.cond_t; rfl) | (apply J.cond_f; rfl) | apply J.exit | apply E.then_exit | apply E.in_exit | (apply E.in_other; rfl))
    (refine J.ret ?_; (repeat (first | refine E.then_ret ?_ | refine E.in_ret ?_)))
    exact E.ret1 rfl rfl
  have hck := scheck17_fn t hg
  cases hc : checkS t
  · rw [hc] at hck
    refine Fn.mk' 79 Try.func6 rfl rfl rfl rfl fun w0 H0 => ?_
    repeat (first | ((first | (apply Lq.s; rfl) | apply PRun.s | (apply Lq.run; rfl; rfl; rfl; exact bsB) | (apply PRun.run; rfl; rfl; exact bsB)); first | (apply op_box stateT; rfl) | (apply op_faddr state_clock; rfl; decide) | (apply op_faddr state_streams; rfl; decide) | (apply op_load (intT .i64); rfl) | (apply op_load (slT streamT); rfl) | (apply op_load stateT; rfl) | (apply op_load streamT; rfl) | (apply op_len (xs := t.streams); rfl) | (apply op_call lives17_fn; exact bsD) | (apply op_call hbf; exact bsD) | (apply op_call hck; exact bsD) | (exact bsO)) | apply J.seq | apply E.next | apply J.lq | apply Lq.nil | apply PRun.nil | apply J.block | apply E.in_normal | apply J.skip | (apply Lq.store; rfl; rfl; exact bsP; exact bsS; rfl; rfl) | (apply PRun.al; rfl) | (apply Lq.al; rfl; rfl; intro b) | (apply Open.cons; intro b) | apply Open.nil | (apply Lq.pass; rfl; rfl; rfl) | (apply PRun.pass; rfl; rfl) | (apply Lq.skip; rfl; rfl; rfl; exact bsB) | (apply PRun.skip; rfl; rfl; exact bsB) | (apply J.drawN; exact mixed; kernel_rfl) | (apply J.cond_t; rfl) | (apply J.cond_f; rfl) | apply J.exit | apply E.then_exit | apply E.in_exit | (apply E.in_other; rfl))
    (refine J.ret ?_; (repeat (first | refine E.then_ret ?_ | refine E.in_ret ?_)))
    exact E.ret1 rfl rfl
  rw [hc] at hck
  have hcs := (checkS_iff.1 hc).2.2
  refine Fn.mk' 79 Try.func6 rfl rfl rfl rfl fun w0 H0 => ?_
  repeat (first | ((first | (apply Lq.s; rfl) | apply PRun.s | (apply Lq.run; rfl; rfl; rfl; exact bsB) | (apply PRun.run; rfl; rfl; exact bsB)); first | (apply op_box stateT; rfl) | (apply op_faddr state_clock; rfl; decide) | (apply op_faddr state_streams; rfl; decide) | (apply op_load (intT .i64); rfl) | (apply op_load (slT streamT); rfl) | (apply op_load stateT; rfl) | (apply op_load streamT; rfl) | (apply op_len (xs := t.streams); rfl) | (apply op_call lives17_fn; exact bsD) | (apply op_call hbf; exact bsD) | (apply op_call hck; exact bsD) | (exact bsO)) | apply J.seq | apply E.next | apply J.lq | apply Lq.nil | apply PRun.nil | apply J.block | apply E.in_normal | apply J.skip | (apply Lq.store; rfl; rfl; exact bsP; exact bsS; rfl; rfl) | (apply PRun.al; rfl) | (apply Lq.al; rfl; rfl; intro b) | (apply Open.cons; intro b) | apply Open.nil | (apply Lq.pass; rfl; rfl; rfl) | (apply PRun.pass; rfl; rfl) | (apply Lq.skip; rfl; rfl; rfl; exact bsB) | (apply PRun.skip; rfl; rfl; exact bsB) | (apply J.drawN; exact mixed; kernel_rfl) | (apply J.cond_t; rfl) | (apply J.cond_f; rfl) | apply J.exit | apply E.then_exit | apply E.in_exit | (apply E.in_other; rfl))
  refine J.loop (fun i : Nat => i ≤ t.streams.length) (fun i => [(1, is (str x)), (2, ptr (stateT.cells t)), (5, is (.bool ((t.streams.take i).any fun y => decide (y.name = x)))), (6, is (.int .i64 (i : Int)))]) (fun _ => []) (fun i => t.streams.length - i) 0 (Nat.zero_le _) (Sub.same (by repeat' (first | exact trivial | refine ⟨rfl, ?_⟩))) ?_
  rintro i hi
  by_cases hlt : i < t.streams.length
  · obtain ⟨y, hy⟩ : ∃ y, t.streams[i]? = some y := ⟨_, List.getElem?_eq_getElem hlt⟩
    have hff := find17_fn t y.name hlg
    rw [(stOk_iff.1 (hcs i y hy)).2.2, show max (i : Int) 0 = (i : Int) by omega, decide_eq_true (show (0 : Int) ≤ (i : Int) by omega)] at hff
    have hat := any_take (p := fun y : StreamS => decide (y.name = x)) hy
    generalize (t.streams.take i).any (fun y => decide (y.name = x)) = w at *
    cases w
    · repeat (first | ((first | (apply Lq.s; rfl) | apply PRun.s | (apply Lq.run; rfl; rfl; rfl; exact bsB) | (apply PRun.run; rfl; rfl; exact bsB)); first | (apply op_box stateT; rfl) | (apply op_faddr state_clock; rfl; decide) | (apply op_faddr state_streams; rfl; decide) | (apply op_load (intT .i64); rfl) | (apply op_load (slT streamT); rfl) | (apply op_load stateT; rfl) | (apply op_load streamT; rfl) | (apply op_len (xs := t.streams); rfl) | (apply op_call lives17_fn; exact bsD) | (apply op_call hbf; exact bsD) | (exact bsO)) | apply J.seq | apply E.next | apply J.lq | apply Lq.nil | apply PRun.nil | apply J.block | apply E.in_normal | apply J.skip | (apply Lq.store; rfl; rfl; exact bsP; exact bsS; rfl; rfl) | (apply PRun.al; rfl) | (apply Lq.al; rfl; rfl; intro b) | (apply Open.cons; intro b) | apply Open.nil | (apply Lq.pass; rfl; rfl; rfl) | (apply PRun.pass; rfl; rfl) | (apply Lq.skip; rfl; rfl; rfl; exact bsB) | (apply PRun.skip; rfl; rfl; exact bsB) | (apply J.cond_t; rfl) | (apply J.cond_f; rfl) | apply J.exit | apply E.then_exit | apply E.in_exit | (apply E.in_other; rfl))
      refine J.drawW 13 [(none, none), (none, none), (none, none), (none, none), (none, none), (none, none), (none, none), (none, none), (none, none), (none, none), (none, none), (none, none), (none, none)] mixed (by kernel_rfl) ?_
      repeat (first | ((first | apply PRunW.s | (apply PRunW.run; rfl; rfl; exact bsB) | (apply Lq.s; rfl) | apply PRun.s | (apply Lq.run; rfl; rfl; rfl; exact bsB) | (apply PRun.run; rfl; rfl; exact bsB)); first | (apply op_box stateT; rfl) | (apply op_faddr state_clock; rfl; decide) | (apply op_faddr state_streams; rfl; decide) | (apply op_load (intT .i64); rfl) | (apply op_load (slT streamT); rfl) | (apply op_load stateT; rfl) | (apply op_load streamT; rfl) | (apply op_len (xs := t.streams); rfl) | (apply op_call lives17_fn; exact bsD) | (apply op_call hbf; exact bsD) | (apply op_iaddr streamT.toTy (x := y); rfl; rfl; exact Int.natCast_nonneg _; (rw [Int.toNat_natCast]; exact hy)) | (apply op_faddr stream_name; rfl; decide) | (apply op_load strT; rfl) | (apply op_call hff; exact bsD) | (apply op_seql (a := y.name) (b := x); rfl; rfl) | (apply op_add (c := ((i + 1 : Nat) : Int)); rfl; rfl; (rw [show (i : Int) + 1 = ((i + 1 : Nat) : Int) by omega]; apply wrapi <;> omega)) | (exact bsO)) | apply J.seq | apply E.next | apply J.lq | apply Lq.nil | apply PRun.nil | apply J.block | apply E.in_normal | apply J.skip | (apply Lq.store; rfl; rfl; exact bsP; exact bsS; rfl; rfl) | (apply PRun.al; rfl) | (apply Lq.al; rfl; rfl; intro b) | (apply Open.cons; intro b) | apply Open.nil | (apply Lq.pass; rfl; rfl; rfl) | (apply PRun.pass; rfl; rfl) | (apply Lq.skip; rfl; rfl; rfl; exact bsB) | (apply PRun.skip; rfl; rfl; exact bsB) | (apply J.cond_t; rfl) | (apply J.cond_f; rfl) | apply J.exit | apply E.then_exit | apply E.in_exit | (apply E.in_other; rfl) | apply PRunW.nil | (apply PRunW.al; rfl) | (apply PRunW.pass; rfl; rfl) | (apply PRunW.skip; rfl; rfl; exact bsB) | (apply Open.pv; intro b) | apply Open.av | (apply Open.rv; intro A c))
      rw [show decide (y.name = x) = (t.streams.take (i + 1)).any (fun y => decide (y.name = x)) from hat.symm]
      exact E.again (i + 1) (by omega) (by omega) ⟨(by repeat' (first | exact trivial | refine ⟨rfl, ?_⟩)), [], List.Perm.refl _⟩
    · have hat2 : (t.streams.take (i + 1)).any (fun y => decide (y.name = x)) = true := hat
      repeat (first | ((first | (apply Lq.s; rfl) | apply PRun.s | (apply Lq.run; rfl; rfl; rfl; exact bsB) | (apply PRun.run; rfl; rfl; exact bsB)); first | (apply op_box stateT; rfl) | (apply op_faddr state_clock; rfl; decide) | (apply op_faddr state_streams; rfl; decide) | (apply op_load (intT .i64); rfl) | (apply op_load (slT streamT); rfl) | (apply op_load stateT; rfl) | (apply op_load streamT; rfl) | (apply op_len (xs := t.streams); rfl) | (apply op_call lives17_fn; exact bsD) | (apply op_call hbf; exact bsD) | (exact bsO)) | apply J.seq | apply E.next | apply J.lq | apply Lq.nil | apply PRun.nil | apply J.block | apply E.in_normal | apply J.skip | (apply Lq.store; rfl; rfl; exact bsP; exact bsS; rfl; rfl) | (apply PRun.al; rfl) | (apply Lq.al; rfl; rfl; intro b) | (apply Open.cons; intro b) | apply Open.nil | (apply Lq.pass; rfl; rfl; rfl) | (apply PRun.pass; rfl; rfl) | (apply Lq.skip; rfl; rfl; rfl; exact bsB) | (apply PRun.skip; rfl; rfl; exact bsB) | (apply J.cond_t; rfl) | (apply J.cond_f; rfl) | apply J.exit | apply E.then_exit | apply E.in_exit | (apply E.in_other; rfl))
      refine J.drawW 13 [(none, none), (none, none), (none, none), (none, none), (none, none), (none, none), (none, none), (none, none), (none, none), (none, none), (none, none), (none, none), (none, none)] mixed (by kernel_rfl) ?_
      repeat (first | ((first | apply PRunW.s | (apply PRunW.run; rfl; rfl; exact bsB) | (apply Lq.s; rfl) | apply PRun.s | (apply Lq.run; rfl; rfl; rfl; exact bsB) | (apply PRun.run; rfl; rfl; exact bsB)); first | (apply op_box stateT; rfl) | (apply op_faddr state_clock; rfl; decide) | (apply op_faddr state_streams; rfl; decide) | (apply op_load (intT .i64); rfl) | (apply op_load (slT streamT); rfl) | (apply op_load stateT; rfl) | (apply op_load streamT; rfl) | (apply op_len (xs := t.streams); rfl) | (apply op_call lives17_fn; exact bsD) | (apply op_call hbf; exact bsD) | (apply op_iaddr streamT.toTy (x := y); rfl; rfl; exact Int.natCast_nonneg _; (rw [Int.toNat_natCast]; exact hy)) | (apply op_faddr stream_name; rfl; decide) | (apply op_load strT; rfl) | (apply op_call hff; exact bsD) | (apply op_add (c := ((i + 1 : Nat) : Int)); rfl; rfl; (rw [show (i : Int) + 1 = ((i + 1 : Nat) : Int) by omega]; apply wrapi <;> omega)) | (exact bsO)) | apply J.seq | apply E.next | apply J.lq | apply Lq.nil | apply PRun.nil | apply J.block | apply E.in_normal | apply J.skip | (apply Lq.store; rfl; rfl; exact bsP; exact bsS; rfl; rfl) | (apply PRun.al; rfl) | (apply Lq.al; rfl; rfl; intro b) | (apply Open.cons; intro b) | apply Open.nil | (apply Lq.pass; rfl; rfl; rfl) | (apply PRun.pass; rfl; rfl) | (apply Lq.skip; rfl; rfl; rfl; exact bsB) | (apply PRun.skip; rfl; rfl; exact bsB) | (apply J.cond_t; rfl) | (apply J.cond_f; rfl) | apply J.exit | apply E.then_exit | apply E.in_exit | (apply E.in_other; rfl) | apply PRunW.nil | (apply PRunW.al; rfl) | (apply PRunW.pass; rfl; rfl) | (apply PRunW.skip; rfl; rfl; exact bsB) | (apply Open.pv; intro b) | apply Open.av | (apply Open.rv; intro A c))
      refine E.again (i + 1) (by omega) (by omega) ?_
      rw [hat2]
      exact ⟨(by repeat' (first | exact trivial | refine ⟨rfl, ?_⟩)), [], List.Perm.refl _⟩
  · obtain rfl : i = t.streams.length := by omega
    rw [List.take_length]
    have hff := find17_fn t x hlg
    have hp : decide (0 ≤ findI t.streams x) = t.streams.any (fun y => decide (y.name = x)) := by unfold findI; exact idxM_pos
    rw [hp] at hff
    have hz : t.streams.any (fun y => decide (y.name = x)) = false → max (findI t.streams x) 0 = 0 := fun h => by
      rw [h] at hp
      have := of_decide_eq_false hp
      omega
    generalize max (findI t.streams x) 0 = z at *
    generalize t.streams.any (fun y => decide (y.name = x)) = w at *
    cases w
    · have hz := hz rfl
      repeat (first | ((first | (apply Lq.s; rfl) | apply PRun.s | (apply Lq.run; rfl; rfl; rfl; exact bsB) | (apply PRun.run; rfl; rfl; exact bsB)); first | (apply op_box stateT; rfl) | (apply op_faddr state_clock; rfl; decide) | (apply op_faddr state_streams; rfl; decide) | (apply op_load (intT .i64); rfl) | (apply op_load (slT streamT); rfl) | (apply op_load stateT; rfl) | (apply op_load streamT; rfl) | (apply op_len (xs := t.streams); rfl) | (apply op_call lives17_fn; exact bsD) | (apply op_call hbf; exact bsD) | (apply op_call hff; exact bsD) | (exact bsO)) | apply J.seq | apply E.next | apply J.lq | apply Lq.nil | apply PRun.nil | apply J.block | apply E.in_normal | apply J.skip | (apply Lq.store; rfl; rfl; exact bsP; exact bsS; rfl; rfl) | (apply PRun.al; rfl) | (apply Lq.al; rfl; rfl; intro b) | (apply Open.cons; intro b) | apply Open.nil | (apply Lq.pass; rfl; rfl; rfl) | (apply PRun.pass; rfl; rfl) | (apply Lq.skip; rfl; rfl; rfl; exact bsB) | (apply PRun.skip; rfl; rfl; exact bsB) | (apply J.drawN; exact mixed; kernel_rfl) | (apply J.cond_t; rfl) | (apply J.cond_f; rfl) | apply J.exit | apply E.then_exit | apply E.in_exit | (apply E.in_other; rfl))
      (refine J.ret ?_; (repeat (first | refine E.then_ret ?_ | refine E.in_ret ?_)))
      exact E.ret1 rfl rfl
    · repeat (first | ((first | (apply Lq.s; rfl) | apply PRun.s | (apply Lq.run; rfl; rfl; rfl; exact bsB) | (apply PRun.run; rfl; rfl; exact bsB)); first | (apply op_box stateT; rfl) | (apply op_faddr state_clock; rfl; decide) | (apply op_faddr state_streams; rfl; decide) | (apply op_load (intT .i64); rfl) | (apply op_load (slT streamT); rfl) | (apply op_load stateT; rfl) | (apply op_load streamT; rfl) | (apply op_len (xs := t.streams); rfl) | (apply op_call lives17_fn; exact bsD) | (apply op_call hbf; exact bsD) | (apply op_call hff; exact bsD) | (exact bsO)) | apply J.seq | apply E.next | apply J.lq | apply Lq.nil | apply PRun.nil | apply J.block | apply E.in_normal | apply J.skip | (apply Lq.store; rfl; rfl; exact bsP; exact bsS; rfl; rfl) | (apply PRun.al; rfl) | (apply Lq.al; rfl; rfl; intro b) | (apply Open.cons; intro b) | apply Open.nil | (apply Lq.pass; rfl; rfl; rfl) | (apply PRun.pass; rfl; rfl) | (apply Lq.skip; rfl; rfl; rfl; exact bsB) | (apply PRun.skip; rfl; rfl; exact bsB) | (apply J.drawN; exact mixed; kernel_rfl) | (apply J.cond_t; rfl) | (apply J.cond_f; rfl) | apply J.exit | apply E.then_exit | apply E.in_exit | (apply E.in_other; rfl))
      (refine J.ret ?_; (repeat (first | refine E.then_ret ?_ | refine E.in_ret ?_)))
      exact E.ret1 rfl rfl
set_option maxHeartbeats 4000000 in
theorem statesApart (t : StateS) (e : EntryS) (hx : StateOk t) (hx2 : EntryOk e) : Fn Try.prog 7 [stateT.val t, entryT.val e] (is (.bool true)) := by
  have hen := hx2.2.2.2.2.1
  unfold maxLen at hen
  have hbf := beyond17_fn t hx
  cases hb : beyondT t
  case true =>
    rw [hb] at hbf
    refine Fn.mk' 81 Try.func7 rfl rfl rfl rfl fun w0 H0 => ?_
    repeat (first | ((first | (apply Lq.s; rfl) | apply PRun.s | (apply Lq.run; rfl; rfl; rfl; exact bsB) | (apply PRun.run; rfl; rfl; exact bsB)); first | (apply op_box stateT; rfl) | (apply op_faddr state_clock; rfl; decide) | (apply op_faddr state_streams; rfl; decide) | (apply op_load (intT .i64); rfl) | (apply op_load (slT streamT); rfl) | (apply op_load stateT; rfl) | (apply op_load streamT; rfl) | (apply op_len (xs := t.streams); rfl) | (apply op_call lives17_fn; exact bsD) | (apply op_call hbf; exact bsD) | (apply op_box entryT; rfl) | (apply op_faddr entry_kind; rfl; decide) | (apply op_faddr entry_stream; rfl; decide) | (apply op_faddr entry_name; rfl; decide) | (apply op_load strT; rfl) | (apply op_load entryT; rfl) | (exact bsO)) | apply J.seq | apply E.next | apply J.lq | apply Lq.nil | apply PRun.nil | apply J.block | apply E.in_normal | apply J.skip | (apply Lq.store; rfl; rfl; exact bsP; exact bsS; rfl; rfl) | (apply PRun.al; rfl) | (apply Lq.al; rfl; rfl; intro b) | (apply Open.cons; intro b) | apply Open.nil | (apply Lq.pass; rfl; rfl; rfl) | (apply PRun.pass; rfl; rfl) | (apply Lq.skip; rfl; rfl; rfl; exact bsB) | (apply PRun.skip; rfl; rfl; exact bsB) | (apply J.drawN; exact mixed; kernel_rfl) | (apply J.cond_t; rfl) | (apply J.cond_f; rfl) | apply J.exit | apply E.then_exit | apply E.in_exit | (apply E.in_other; rfl))
    (refine J.ret ?_; (repeat (first | refine E.then_ret ?_ | refine E.in_ret ?_)))
    exact E.ret1 rfl rfl
  rw [hb] at hbf
  have hg := goodB hx hb
  have hlg := hg.1
  by_cases hl : 100 < e.name.length
  · refine Fn.mk' 81 Try.func7 rfl rfl rfl rfl fun w0 H0 => ?_
    repeat (first | ((first | (apply Lq.s; rfl) | apply PRun.s | (apply Lq.run; rfl; rfl; rfl; exact bsB) | (apply PRun.run; rfl; rfl; exact bsB)); first | (apply op_box stateT; rfl) | (apply op_faddr state_clock; rfl; decide) | (apply op_faddr state_streams; rfl; decide) | (apply op_load (intT .i64); rfl) | (apply op_load (slT streamT); rfl) | (apply op_load stateT; rfl) | (apply op_load streamT; rfl) | (apply op_len (xs := t.streams); rfl) | (apply op_call lives17_fn; exact bsD) | (apply op_call hbf; exact bsD) | (apply op_box entryT; rfl) | (apply op_faddr entry_kind; rfl; decide) | (apply op_faddr entry_stream; rfl; decide) | (apply op_faddr entry_name; rfl; decide) | (apply op_load strT; rfl) | (apply op_load entryT; rfl) | (exact bsO)) | apply J.seq | apply E.next | apply J.lq | apply Lq.nil | apply PRun.nil | apply J.block | apply E.in_normal | apply J.skip | (apply Lq.store; rfl; rfl; exact bsP; exact bsS; rfl; rfl) | (apply PRun.al; rfl) | (apply Lq.al; rfl; rfl; intro b) | (apply Open.cons; intro b) | apply Open.nil | (apply Lq.pass; rfl; rfl; rfl) | (apply PRun.pass; rfl; rfl) | (apply Lq.skip; rfl; rfl; rfl; exact bsB) | (apply PRun.skip; rfl; rfl; exact bsB) | (apply J.drawN; exact mixed; kernel_rfl) | (apply J.cond_t; rfl) | (apply J.cond_f; rfl) | apply J.exit | apply E.then_exit | apply E.in_exit | (apply E.in_other; rfl))
    (refine J.ret ?_; (repeat (first | refine E.then_ret ?_ | refine E.in_ret ?_)))
    exact E.ret1 rfl rfl
  have haf := sapply17_fn t e hg
  by_cases h0 : (applyS t e).2 = 0
  case neg =>
    rw [applyS_err h0] at haf
    generalize (applyS t e).2 = z at *
    have hsf := sameState_fn zeroT zeroT goodZ goodZ
    rw [decide_eq_true (show zeroT = zeroT from rfl)] at hsf
    refine Fn.mk' 81 Try.func7 rfl rfl rfl rfl fun w0 H0 => ?_
    repeat (first | ((first | (apply Lq.s; rfl) | apply PRun.s | (apply Lq.run; rfl; rfl; rfl; exact bsB) | (apply PRun.run; rfl; rfl; exact bsB)); first | (apply op_box stateT; rfl) | (apply op_faddr state_clock; rfl; decide) | (apply op_faddr state_streams; rfl; decide) | (apply op_load (intT .i64); rfl) | (apply op_load (slT streamT); rfl) | (apply op_load stateT; rfl) | (apply op_load streamT; rfl) | (apply op_len (xs := t.streams); rfl) | (apply op_call lives17_fn; exact bsD) | (apply op_call hbf; exact bsD) | (apply op_box entryT; rfl) | (apply op_faddr entry_kind; rfl; decide) | (apply op_faddr entry_stream; rfl; decide) | (apply op_faddr entry_name; rfl; decide) | (apply op_load strT; rfl) | (apply op_load entryT; rfl) | (apply op_call haf; exact bsD) | (apply op_oload stateT (x := zeroT); rfl; exact bsM; rfl) | (apply op_zeroT; rfl; rfl) | (apply op_call hsf; exact bsD) | (exact bsO)) | apply J.seq | apply E.next | apply J.lq | apply Lq.nil | apply PRun.nil | apply J.block | apply E.in_normal | apply J.skip | (apply Lq.store; rfl; rfl; exact bsP; exact bsS; rfl; rfl) | (apply PRun.al; rfl) | (apply Lq.al; rfl; rfl; intro b) | (apply Open.cons; intro b) | apply Open.nil | (apply Lq.pass; rfl; rfl; rfl) | (apply PRun.pass; rfl; rfl) | (apply Lq.skip; rfl; rfl; rfl; exact bsB) | (apply PRun.skip; rfl; rfl; exact bsB) | (apply J.drawN; exact mixed; kernel_rfl) | (apply J.cond_t; rfl) | (apply J.cond_f; rfl) | apply J.exit | apply E.then_exit | apply E.in_exit | (apply E.in_other; rfl))
    (refine J.ret ?_; (repeat (first | refine E.then_ret ?_ | refine E.in_ret ?_)))
    exact E.ret1 rfl rfl
  have hsx : ∀ x ∈ t.streams, Fn Try.prog 24 [streamT.val x, streamT.val x] (is (.bool true)) := fun x hm => by
    have h := sameStream_fn x x (hg.2 x hm).2 (hg.2 x hm).2
    rw [decide_eq_true rfl] at h
    exact h
  rw [h0] at haf
  obtain ⟨_, ⟨k1, _, _, hr⟩ | ⟨k1, hs0, _, x, hsx2, _, hr⟩⟩ := applyS_ok h0
  · have hlen : (applyS t e).1.streams.length = t.streams.length + 1 := by rw [hr]; show (t.streams ++ [_]).length = _; rw [List.length_append]; rfl
    have hcl : (applyS t e).1.clock = t.clock := by rw [hr]
    have hat : ∀ (i : Nat) (y : StreamS), t.streams[i]? = some y → (applyS t e).1.streams[i]? = some y := fun i y hy => by
      rw [hr]
      show (t.streams ++ [_])[i]? = _
      rw [List.getElem?_append_left (List.getElem?_eq_some_iff.1 hy).1]; exact hy
    clear hr h0
    generalize (applyS t e).1 = q at *
    refine Fn.mk' 81 Try.func7 rfl rfl rfl rfl fun w0 H0 => ?_
    repeat (first | ((first | (apply Lq.s; rfl) | apply PRun.s | (apply Lq.run; rfl; rfl; rfl; exact bsB) | (apply PRun.run; rfl; rfl; exact bsB)); first | (apply op_box stateT; rfl) | (apply op_faddr state_clock; rfl; decide) | (apply op_faddr state_streams; rfl; decide) | (apply op_load (intT .i64); rfl) | (apply op_load (slT streamT); rfl) | (apply op_load stateT; rfl) | (apply op_load streamT; rfl) | (apply op_len (xs := t.streams); rfl) | (apply op_call lives17_fn; exact bsD) | (apply op_call hbf; exact bsD) | (apply op_box entryT; rfl) | (apply op_faddr entry_stream; rfl; decide) | (apply op_faddr entry_name; rfl; decide) | (apply op_load strT; rfl) | (apply op_load entryT; rfl) | (apply op_len (xs := q.streams); rfl) | (apply op_call haf; exact bsD) | (exact bsO)) | apply J.seq | apply E.next | apply J.lq | apply Lq.nil | apply PRun.nil | apply J.block | apply E.in_normal | apply J.skip | (apply Lq.store; rfl; rfl; exact bsP; exact bsS; rfl; rfl) | (apply PRun.al; rfl) | (apply Lq.al; rfl; rfl; intro b) | (apply Open.cons; intro b) | apply Open.nil | (apply Lq.pass; rfl; rfl; rfl) | (apply PRun.pass; rfl; rfl) | (apply Lq.skip; rfl; rfl; rfl; exact bsB) | (apply PRun.skip; rfl; rfl; exact bsB) | (apply J.cond_t; rfl) | (apply J.cond_f; rfl) | apply J.exit | apply E.then_exit | apply E.in_exit | (apply E.in_other; rfl))
    revert b
    intro b5
    refine Lq.res1 (r' := own b5 24 (stateT.cells q)) (by exact bsP) (fun H w h => ⟨h, rfl⟩) ?_
    refine Lq.frzB 5 rfl (List.Perm.refl _) ?_
    repeat (first | ((first | (apply Lq.s; rfl) | apply PRun.s | (apply Lq.run; rfl; rfl; rfl; exact bsB) | (apply PRun.run; rfl; rfl; exact bsB)); first | (apply op_box stateT; rfl) | (apply op_faddr state_clock; rfl; decide) | (apply op_faddr state_streams; rfl; decide) | (apply op_load (intT .i64); rfl) | (apply op_load (slT streamT); rfl) | (apply op_load stateT; rfl) | (apply op_load streamT; rfl) | (apply op_len (xs := t.streams); rfl) | (apply op_call lives17_fn; exact bsD) | (apply op_call hbf; exact bsD) | (apply op_box entryT; rfl) | (apply op_faddr entry_kind; rfl; decide) | (apply op_faddr entry_stream; rfl; decide) | (apply op_faddr entry_name; rfl; decide) | (apply op_load strT; rfl) | (apply op_load entryT; rfl) | (apply op_len (xs := q.streams); rfl) | (apply op_call haf; exact bsD) | (apply op_add (c := ((t.streams.length + 1 : Nat) : Int)); rfl; rfl; (rw [show (t.streams.length : Int) + 1 = ((t.streams.length + 1 : Nat) : Int) by omega]; apply wrapi <;> omega)) | (exact bsO)) | apply J.seq | apply E.next | apply J.lq | apply Lq.nil | apply PRun.nil | apply J.block | apply E.in_normal | apply J.skip | (apply Lq.store; rfl; rfl; exact bsP; exact bsS; rfl; rfl) | (apply PRun.al; rfl) | (apply Lq.al; rfl; rfl; intro b) | (apply Open.cons; intro b) | apply Open.nil | (apply Lq.pass; rfl; rfl; rfl) | (apply PRun.pass; rfl; rfl) | (apply Lq.skip; rfl; rfl; rfl; exact bsB) | (apply PRun.skip; rfl; rfl; exact bsB) | (apply J.drawN; exact mixed; kernel_rfl) | (apply J.cond_t; rfl) | (apply J.cond_f; rfl) | apply J.exit | apply E.then_exit | apply E.in_exit | (apply E.in_other; rfl))
    refine J.loop (fun i : Nat => i ≤ t.streams.length) (fun i => [(2, ptr (stateT.cells t)), (3, ptr (entryT.cells e)), (5, ptr (stateT.cells q)), (7, is (.int .i64 1)), (8, is (.int .i64 (i : Int)))]) (fun _ => []) (fun i => t.streams.length - i) 0 (Nat.zero_le _) (Sub.same (by repeat' (first | exact trivial | refine ⟨rfl, ?_⟩))) ?_
    rintro i hi
    by_cases hlt : i < t.streams.length
    case neg =>
      repeat (first | ((first | (apply Lq.s; rfl) | apply PRun.s | (apply Lq.run; rfl; rfl; rfl; exact bsB) | (apply PRun.run; rfl; rfl; exact bsB)); first | (apply op_box stateT; rfl) | (apply op_faddr state_clock; rfl; decide) | (apply op_faddr state_streams; rfl; decide) | (apply op_load (intT .i64); rfl) | (apply op_load (slT streamT); rfl) | (apply op_load stateT; rfl) | (apply op_load streamT; rfl) | (apply op_len (xs := t.streams); rfl) | (apply op_call lives17_fn; exact bsD) | (apply op_call hbf; exact bsD) | (apply op_box entryT; rfl) | (apply op_faddr entry_kind; rfl; decide) | (apply op_faddr entry_stream; rfl; decide) | (apply op_faddr entry_name; rfl; decide) | (apply op_load strT; rfl) | (apply op_load entryT; rfl) | (apply op_len (xs := q.streams); rfl) | (apply op_call haf; exact bsD) | (exact bsO)) | apply J.seq | apply E.next | apply J.lq | apply Lq.nil | apply PRun.nil | apply J.block | apply E.in_normal | apply J.skip | (apply Lq.store; rfl; rfl; exact bsP; exact bsS; rfl; rfl) | (apply PRun.al; rfl) | (apply Lq.al; rfl; rfl; intro b) | (apply Open.cons; intro b) | apply Open.nil | (apply Lq.pass; rfl; rfl; rfl) | (apply PRun.pass; rfl; rfl) | (apply Lq.skip; rfl; rfl; rfl; exact bsB) | (apply PRun.skip; rfl; rfl; exact bsB) | (apply J.drawN; exact mixed; kernel_rfl) | (apply J.cond_t; rfl) | (apply J.cond_f; rfl) | apply J.exit | apply E.then_exit | apply E.in_exit | (apply E.in_other; rfl))
      (refine J.ret ?_; (repeat (first | refine E.then_ret ?_ | refine E.in_ret ?_)))
      exact E.ret1 rfl rfl
    obtain ⟨y, hy⟩ : ∃ y, t.streams[i]? = some y := ⟨_, List.getElem?_eq_getElem hlt⟩
    have hsf := hsx y (List.mem_of_getElem? hy)
    have hq := hat i y hy
    repeat (first | ((first | (apply Lq.s; rfl) | apply PRun.s | (apply Lq.run; rfl; rfl; rfl; exact bsB) | (apply PRun.run; rfl; rfl; exact bsB)); first | (apply op_box stateT; rfl) | (apply op_faddr state_clock; rfl; decide) | (apply op_faddr state_streams; rfl; decide) | (apply op_load (intT .i64); rfl) | (apply op_load (slT streamT); rfl) | (apply op_load stateT; rfl) | (apply op_load streamT; rfl) | (apply op_len (xs := t.streams); rfl) | (apply op_call lives17_fn; exact bsD) | (apply op_call hbf; exact bsD) | (apply op_box entryT; rfl) | (apply op_faddr entry_kind; rfl; decide) | (apply op_faddr entry_stream; rfl; decide) | (apply op_faddr entry_name; rfl; decide) | (apply op_load strT; rfl) | (apply op_load entryT; rfl) | (apply op_len (xs := q.streams); rfl) | (apply op_call haf; exact bsD) | (apply op_iaddr streamT.toTy (xs := t.streams) (x := y); rfl; rfl; exact Int.natCast_nonneg _; (rw [Int.toNat_natCast]; exact hy)) | (apply op_iaddr streamT.toTy (xs := q.streams) (x := y); rfl; rfl; exact Int.natCast_nonneg _; (rw [Int.toNat_natCast]; exact hq)) | (apply op_call hsf; exact bsD) | (apply op_add (c := ((i + 1 : Nat) : Int)); rfl; rfl; (rw [show (i : Int) + 1 = ((i + 1 : Nat) : Int) by omega]; apply wrapi <;> omega)) | (exact bsO)) | apply J.seq | apply E.next | apply J.lq | apply Lq.nil | apply PRun.nil | apply J.block | apply E.in_normal | apply J.skip | (apply Lq.store; rfl; rfl; exact bsP; exact bsS; rfl; rfl) | (apply PRun.al; rfl) | (apply Lq.al; rfl; rfl; intro b) | (apply Open.cons; intro b) | apply Open.nil | (apply Lq.pass; rfl; rfl; rfl) | (apply PRun.pass; rfl; rfl) | (apply Lq.skip; rfl; rfl; rfl; exact bsB) | (apply PRun.skip; rfl; rfl; exact bsB) | (apply J.drawN; exact mixed; kernel_rfl) | (apply J.cond_t; rfl) | (apply J.cond_f; rfl) | apply J.exit | apply E.then_exit | apply E.in_exit | (apply E.in_other; rfl))
    exact E.again (i + 1) (by omega) (by omega) ⟨(by repeat' (first | exact trivial | refine ⟨rfl, ?_⟩)), [], List.Perm.refl _⟩
  · have hlen : (applyS t e).1.streams.length = t.streams.length := by rw [hr, List.length_set]
    have hcl : (applyS t e).1.clock = t.clock := by rw [hr]
    have hat : ∀ (i : Nat) (y : StreamS), (i : Int) ≠ e.stream → t.streams[i]? = some y → (applyS t e).1.streams[i]? = some y := fun i y hne hy => by
      rw [hr, List.getElem?_set_ne (by omega)]; exact hy
    clear hr h0
    generalize (applyS t e).1 = q at *
    refine Fn.mk' 81 Try.func7 rfl rfl rfl rfl fun w0 H0 => ?_
    repeat (first | ((first | (apply Lq.s; rfl) | apply PRun.s | (apply Lq.run; rfl; rfl; rfl; exact bsB) | (apply PRun.run; rfl; rfl; exact bsB)); first | (apply op_box stateT; rfl) | (apply op_faddr state_clock; rfl; decide) | (apply op_faddr state_streams; rfl; decide) | (apply op_load (intT .i64); rfl) | (apply op_load (slT streamT); rfl) | (apply op_load stateT; rfl) | (apply op_load streamT; rfl) | (apply op_len (xs := t.streams); rfl) | (apply op_call lives17_fn; exact bsD) | (apply op_call hbf; exact bsD) | (apply op_box entryT; rfl) | (apply op_faddr entry_stream; rfl; decide) | (apply op_faddr entry_name; rfl; decide) | (apply op_load strT; rfl) | (apply op_load entryT; rfl) | (apply op_len (xs := q.streams); rfl) | (apply op_call haf; exact bsD) | (exact bsO)) | apply J.seq | apply E.next | apply J.lq | apply Lq.nil | apply PRun.nil | apply J.block | apply E.in_normal | apply J.skip | (apply Lq.store; rfl; rfl; exact bsP; exact bsS; rfl; rfl) | (apply PRun.al; rfl) | (apply Lq.al; rfl; rfl; intro b) | (apply Open.cons; intro b) | apply Open.nil | (apply Lq.pass; rfl; rfl; rfl) | (apply PRun.pass; rfl; rfl) | (apply Lq.skip; rfl; rfl; rfl; exact bsB) | (apply PRun.skip; rfl; rfl; exact bsB) | (apply J.cond_t; rfl) | (apply J.cond_f; rfl) | apply J.exit | apply E.then_exit | apply E.in_exit | (apply E.in_other; rfl))
    revert b
    intro b5
    refine Lq.res1 (r' := own b5 24 (stateT.cells q)) (by exact bsP) (fun H w h => ⟨h, rfl⟩) ?_
    refine Lq.frzB 5 rfl (List.Perm.refl _) ?_
    repeat (first | ((first | (apply Lq.s; rfl) | apply PRun.s | (apply Lq.run; rfl; rfl; rfl; exact bsB) | (apply PRun.run; rfl; rfl; exact bsB)); first | (apply op_box stateT; rfl) | (apply op_faddr state_clock; rfl; decide) | (apply op_faddr state_streams; rfl; decide) | (apply op_load (intT .i64); rfl) | (apply op_load (slT streamT); rfl) | (apply op_load stateT; rfl) | (apply op_load streamT; rfl) | (apply op_len (xs := t.streams); rfl) | (apply op_call lives17_fn; exact bsD) | (apply op_call hbf; exact bsD) | (apply op_box entryT; rfl) | (apply op_faddr entry_kind; rfl; decide) | (apply op_faddr entry_stream; rfl; decide) | (apply op_faddr entry_name; rfl; decide) | (apply op_load strT; rfl) | (apply op_load entryT; rfl) | (apply op_len (xs := q.streams); rfl) | (apply op_call haf; exact bsD) | (apply op_add (c := ((t.streams.length + 0 : Nat) : Int)); rfl; rfl; (rw [show (t.streams.length : Int) + 0 = ((t.streams.length + 0 : Nat) : Int) by omega]; apply wrapi <;> omega)) | (exact bsO)) | apply J.seq | apply E.next | apply J.lq | apply Lq.nil | apply PRun.nil | apply J.block | apply E.in_normal | apply J.skip | (apply Lq.store; rfl; rfl; exact bsP; exact bsS; rfl; rfl) | (apply PRun.al; rfl) | (apply Lq.al; rfl; rfl; intro b) | (apply Open.cons; intro b) | apply Open.nil | (apply Lq.pass; rfl; rfl; rfl) | (apply PRun.pass; rfl; rfl) | (apply Lq.skip; rfl; rfl; rfl; exact bsB) | (apply PRun.skip; rfl; rfl; exact bsB) | (apply J.drawN; exact mixed; kernel_rfl) | (apply J.cond_t; rfl) | (apply J.cond_f; rfl) | apply J.exit | apply E.then_exit | apply E.in_exit | (apply E.in_other; rfl))
    refine J.loop (fun i : Nat => i ≤ t.streams.length) (fun i => [(2, ptr (stateT.cells t)), (3, ptr (entryT.cells e)), (5, ptr (stateT.cells q)), (7, is (.int .i64 0)), (8, is (.int .i64 (i : Int)))]) (fun _ => []) (fun i => t.streams.length - i) 0 (Nat.zero_le _) (Sub.same (by repeat' (first | exact trivial | refine ⟨rfl, ?_⟩))) ?_
    rintro i hi
    by_cases hlt : i < t.streams.length
    case neg =>
      repeat (first | ((first | (apply Lq.s; rfl) | apply PRun.s | (apply Lq.run; rfl; rfl; rfl; exact bsB) | (apply PRun.run; rfl; rfl; exact bsB)); first | (apply op_box stateT; rfl) | (apply op_faddr state_clock; rfl; decide) | (apply op_faddr state_streams; rfl; decide) | (apply op_load (intT .i64); rfl) | (apply op_load (slT streamT); rfl) | (apply op_load stateT; rfl) | (apply op_load streamT; rfl) | (apply op_len (xs := t.streams); rfl) | (apply op_call lives17_fn; exact bsD) | (apply op_call hbf; exact bsD) | (apply op_box entryT; rfl) | (apply op_faddr entry_kind; rfl; decide) | (apply op_faddr entry_stream; rfl; decide) | (apply op_faddr entry_name; rfl; decide) | (apply op_load strT; rfl) | (apply op_load entryT; rfl) | (apply op_len (xs := q.streams); rfl) | (apply op_call haf; exact bsD) | (exact bsO)) | apply J.seq | apply E.next | apply J.lq | apply Lq.nil | apply PRun.nil | apply J.block | apply E.in_normal | apply J.skip | (apply Lq.store; rfl; rfl; exact bsP; exact bsS; rfl; rfl) | (apply PRun.al; rfl) | (apply Lq.al; rfl; rfl; intro b) | (apply Open.cons; intro b) | apply Open.nil | (apply Lq.pass; rfl; rfl; rfl) | (apply PRun.pass; rfl; rfl) | (apply Lq.skip; rfl; rfl; rfl; exact bsB) | (apply PRun.skip; rfl; rfl; exact bsB) | (apply J.drawN; exact mixed; kernel_rfl) | (apply J.cond_t; rfl) | (apply J.cond_f; rfl) | apply J.exit | apply E.then_exit | apply E.in_exit | (apply E.in_other; rfl))
      (refine J.ret ?_; (repeat (first | refine E.then_ret ?_ | refine E.in_ret ?_)))
      exact E.ret1 rfl rfl
    obtain ⟨y, hy⟩ : ∃ y, t.streams[i]? = some y := ⟨_, List.getElem?_eq_getElem hlt⟩
    have hsf := hsx y (List.mem_of_getElem? hy)
    by_cases hie : (i : Int) = e.stream
    · repeat (first | ((first | (apply Lq.s; rfl) | apply PRun.s | (apply Lq.run; rfl; rfl; rfl; exact bsB) | (apply PRun.run; rfl; rfl; exact bsB)); first | (apply op_box stateT; rfl) | (apply op_faddr state_clock; rfl; decide) | (apply op_faddr state_streams; rfl; decide) | (apply op_load (intT .i64); rfl) | (apply op_load (slT streamT); rfl) | (apply op_load stateT; rfl) | (apply op_load streamT; rfl) | (apply op_len (xs := t.streams); rfl) | (apply op_call lives17_fn; exact bsD) | (apply op_call hbf; exact bsD) | (apply op_box entryT; rfl) | (apply op_faddr entry_kind; rfl; decide) | (apply op_faddr entry_stream; rfl; decide) | (apply op_faddr entry_name; rfl; decide) | (apply op_load strT; rfl) | (apply op_load entryT; rfl) | (apply op_len (xs := q.streams); rfl) | (apply op_call haf; exact bsD) | (apply op_add (c := ((i + 1 : Nat) : Int)); rfl; rfl; (rw [show (i : Int) + 1 = ((i + 1 : Nat) : Int) by omega]; apply wrapi <;> omega)) | (exact bsO)) | apply J.seq | apply E.next | apply J.lq | apply Lq.nil | apply PRun.nil | apply J.block | apply E.in_normal | apply J.skip | (apply Lq.store; rfl; rfl; exact bsP; exact bsS; rfl; rfl) | (apply PRun.al; rfl) | (apply Lq.al; rfl; rfl; intro b) | (apply Open.cons; intro b) | apply Open.nil | (apply Lq.pass; rfl; rfl; rfl) | (apply PRun.pass; rfl; rfl) | (apply Lq.skip; rfl; rfl; rfl; exact bsB) | (apply PRun.skip; rfl; rfl; exact bsB) | (apply J.drawN; exact mixed; kernel_rfl) | (apply J.cond_t; rfl) | (apply J.cond_f; rfl) | apply J.exit | apply E.then_exit | apply E.in_exit | (apply E.in_other; rfl))
      exact E.again (i + 1) (by omega) (by omega) ⟨(by repeat' (first | exact trivial | refine ⟨rfl, ?_⟩)), [], List.Perm.refl _⟩
    · have hq := hat i y hie hy
      repeat (first | ((first | (apply Lq.s; rfl) | apply PRun.s | (apply Lq.run; rfl; rfl; rfl; exact bsB) | (apply PRun.run; rfl; rfl; exact bsB)); first | (apply op_box stateT; rfl) | (apply op_faddr state_clock; rfl; decide) | (apply op_faddr state_streams; rfl; decide) | (apply op_load (intT .i64); rfl) | (apply op_load (slT streamT); rfl) | (apply op_load stateT; rfl) | (apply op_load streamT; rfl) | (apply op_len (xs := t.streams); rfl) | (apply op_call lives17_fn; exact bsD) | (apply op_call hbf; exact bsD) | (apply op_box entryT; rfl) | (apply op_faddr entry_kind; rfl; decide) | (apply op_faddr entry_stream; rfl; decide) | (apply op_faddr entry_name; rfl; decide) | (apply op_load strT; rfl) | (apply op_load entryT; rfl) | (apply op_len (xs := q.streams); rfl) | (apply op_call haf; exact bsD) | (apply op_iaddr streamT.toTy (xs := t.streams) (x := y); rfl; rfl; exact Int.natCast_nonneg _; (rw [Int.toNat_natCast]; exact hy)) | (apply op_iaddr streamT.toTy (xs := q.streams) (x := y); rfl; rfl; exact Int.natCast_nonneg _; (rw [Int.toNat_natCast]; exact hq)) | (apply op_call hsf; exact bsD) | (apply op_add (c := ((i + 1 : Nat) : Int)); rfl; rfl; (rw [show (i : Int) + 1 = ((i + 1 : Nat) : Int) by omega]; apply wrapi <;> omega)) | (exact bsO)) | apply J.seq | apply E.next | apply J.lq | apply Lq.nil | apply PRun.nil | apply J.block | apply E.in_normal | apply J.skip | (apply Lq.store; rfl; rfl; exact bsP; exact bsS; rfl; rfl) | (apply PRun.al; rfl) | (apply Lq.al; rfl; rfl; intro b) | (apply Open.cons; intro b) | apply Open.nil | (apply Lq.pass; rfl; rfl; rfl) | (apply PRun.pass; rfl; rfl) | (apply Lq.skip; rfl; rfl; rfl; exact bsB) | (apply PRun.skip; rfl; rfl; exact bsB) | (apply J.drawN; exact mixed; kernel_rfl) | (apply J.cond_t; rfl) | (apply J.cond_f; rfl) | apply J.exit | apply E.then_exit | apply E.in_exit | (apply E.in_other; rfl))
      exact E.again (i + 1) (by omega) (by omega) ⟨(by repeat' (first | exact trivial | refine ⟨rfl, ?_⟩)), [], List.Perm.refl _⟩
end Go.Proofs.Ytbemcehcipkliaa.L
