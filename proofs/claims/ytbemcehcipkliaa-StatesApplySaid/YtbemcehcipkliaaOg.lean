/-
  States that come behind others, and the runs of records, walked; the chapter's states.
-/
import Derived.Test.YtbemcehcipkliaaOe
namespace Go.Proofs.Ytbemcehcipkliaa.L
open Go
set_option linter.unusedSectionVars false
variable [Globs]
set_option linter.unusedVariables false
def all2B {α : Type} (p : α → α → Bool) (l m : List α) : Bool := (List.range l.length).all fun i => match l[i]?, m[i]? with | some x, some y => p x y | _, _ => true
theorem all2B_iff {α : Type} {p : α → α → Bool} {l m : List α} : all2B p l m = true ↔ ∀ (i : Nat) (x y : α), l[i]? = some x → m[i]? = some y → p x y = true := by
  unfold all2B
  rw [List.all_eq_true]
  constructor
  · intro h i x y hx hy
    have := h i (List.mem_range.2 (List.getElem?_eq_some_iff.1 hx).1)
    rw [hx, hy] at this; exact this
  · intro h i hi
    split
    · rename_i x y hx hy; exact h i x y hx hy
    · rfl
theorem all2B_f {α : Type} {p : α → α → Bool} {l m : List α} (i : Nat) (x y : α) (hx : l[i]? = some x) (hy : m[i]? = some y) (h : p x y = false) : all2B p l m = false := by
  cases k : all2B p l m with
  | false => rfl
  | true => rw [all2B_iff.1 k i x y hx hy] at h; cases h
def cover (r : Rec) : Rec := { r with shredded := false }
def recLe (r q : Rec) : Bool := !(r.shredded && !q.shredded) && decide (cover r = cover q)
def longerS (a b : StreamS) : Bool := decide (a.name = b.name) && decide (a.retain ≤ b.retain) && decide (a.recs.length ≤ b.recs.length) && all2B recLe a.recs b.recs
def grownM (a b : StateS) : Bool := decide (a.clock ≤ b.clock) && decide (a.streams.length ≤ b.streams.length) && all2B longerS a.streams b.streams
theorem longerS_1 {a b : StreamS} (h : ¬ (a.name = b.name ∧ a.retain ≤ b.retain ∧ a.recs.length ≤ b.recs.length)) : longerS a b = false := by
  cases k : longerS a b with
  | false => rfl
  | true =>
    unfold longerS at k
    simp only [Bool.and_eq_true, decide_eq_true_eq] at k
    exact absurd ⟨k.1.1.1, k.1.1.2, k.1.2⟩ h
theorem longerS_2 {a b : StreamS} (h1 : a.name = b.name) (h2 : a.retain ≤ b.retain) (h3 : a.recs.length ≤ b.recs.length) : longerS a b = all2B recLe a.recs b.recs := by
  unfold longerS
  rw [decide_eq_true h1, decide_eq_true h2, decide_eq_true h3]; rfl
theorem grownM_1 {a b : StateS} (h : ¬ (a.clock ≤ b.clock ∧ a.streams.length ≤ b.streams.length)) : grownM a b = false := by
  cases k : grownM a b with
  | false => rfl
  | true =>
    unfold grownM at k
    simp only [Bool.and_eq_true, decide_eq_true_eq] at k
    exact absurd ⟨k.1.1, k.1.2⟩ h
theorem grownM_2 {a b : StateS} (h1 : a.clock ≤ b.clock) (h2 : a.streams.length ≤ b.streams.length) : grownM a b = all2B longerS a.streams b.streams := by
  unfold grownM
  rw [decide_eq_true h1, decide_eq_true h2]; rfl
theorem rec_cover (r : Rec) : splice (recT.cells r) 36 [is (.bool false)] = recT.cells (cover r) := by
  have e : (recT.cells r).take 36 = [is (.int .i64 r.time), is (.int .i64 r.len)] ++ hashT.cells r.hash ++ runT.cells r.run := by
    rw [rec_split3]
    exact List.take_left' (by rw [List.length_append, List.length_append, hashT.len, runT.len]; rfl)
  unfold splice
  rw [e, List.drop_eq_nil_of_le (by rw [recT.len]; exact Nat.le_refl 37), List.append_nil, rec_split3]
  rfl
def rr (b : Bool) (l : List Rec) : List Run := (l.filter fun r => r.shredded == b).map Rec.run
def runsM (b : Bool) (l : List StreamS) : List Run := (l.map fun x => rr b x.recs).flatten
theorem rr_step {b : Bool} {l : List Rec} {i : Nat} {r : Rec} (h : l[i]? = some r) : rr b (l.take (i + 1)) = if r.shredded = b then rr b (l.take i) ++ [r.run] else rr b (l.take i) := by
  unfold rr
  rw [List.take_add_one, h, List.filter_append, List.map_append]
  by_cases hs : r.shredded = b
  · rw [if_pos hs]
    simp [hs]
  · rw [if_neg hs]
    simp [hs]
theorem rr_le (b : Bool) (l : List Rec) : (rr b l).length ≤ l.length := by unfold rr; rw [List.length_map]; exact List.length_filter_le _ _
theorem runs_step {b : Bool} {l : List StreamS} {i : Nat} {x : StreamS} (h : l[i]? = some x) : runsM b (l.take (i + 1)) = runsM b (l.take i) ++ rr b x.recs := by
  unfold runsM
  rw [List.take_add_one, h]
  simp
theorem runs_le {b : Bool} {l : List StreamS} (h : ∀ x ∈ l, x.recs.length ≤ 64) : ∀ i, (runsM b (l.take i)).length ≤ 64 * i
  | 0 => by rw [List.take_zero]; exact Nat.zero_le _
  | i + 1 => by
    have ih := runs_le (b := b) h i
    cases hx : l[i]? with
    | none => rw [show l.take (i + 1) = l.take i by rw [List.take_add_one, hx]; simp]; omega
    | some x =>
      rw [runs_step hx, List.length_append]
      have := rr_le b x.recs
      have := h x (List.mem_of_getElem? hx)
      omega
theorem runs_all (l : List StreamS) : (runsM false l).length + (runsM true l).length = (l.map fun x => x.recs.length).sum := by
  have h1 : ∀ l : List Rec, (rr false l).length + (rr true l).length = l.length := fun l => by
    unfold rr
    rw [List.length_map, List.length_map]
    induction l with
    | nil => rfl
    | cons r l ih =>
      rw [List.filter_cons, List.filter_cons, List.length_cons]
      cases r.shredded <;> simp at ih ⊢ <;> omega
  induction l with
  | nil => rfl
  | cons x l ih =>
    have := h1 x.recs
    have e : ∀ b, runsM b (x :: l) = rr b x.recs ++ runsM b l := fun b => rfl
    rw [e, e, List.length_append, List.length_append, List.map_cons, List.sum_cons]
    omega
set_option linter.unusedVariables false
set_option linter.unusedSimpArgs false
attribute [local irreducible] J Lq E OpP PRun is any agg tup ptr sl PRunW OpE
attribute [local irreducible] slt nameE lowerN cloT cntM recOk row tB checkM applyM errM resM beyondM longB newM lastT checkS applyS findI foldS allS all2B rr runsM
set_option maxHeartbeats 2000000 in
theorem longer17_fn (a z : StreamS) (ha : a.recs.length ≤ 1000000) (hz : z.recs.length ≤ 1000000) : Fn Try.prog 38 [streamT.val a, streamT.val z] (is (.bool (longerS a z))) := by
  by_cases h1 : a.name = z.name
  case neg =>
    have hd : decide (a.name = z.name) = false := decide_eq_false h1
    rw [longerS_1 fun h => h1 h.1]
    refine Fn.mk' 55 Try.func38 rfl rfl rfl rfl fun w0 H0 => ?_
    repeat (first | ((first | (apply Lq.s; rfl) | apply PRun.s | (apply Lq.run; rfl; rfl; rfl; exact bsB) | (apply PRun.run; rfl; rfl; exact bsB)); first | (apply op_box streamT; rfl) | (apply op_faddr stream_name; rfl; decide) | (apply op_faddr stream_retain; rfl; decide) | (apply op_faddr stream_recs; rfl; decide) | (apply op_load strT; rfl) | (apply op_load (intT .i64); rfl) | (apply op_load (slT recT); rfl) | (apply op_len (xs := a.recs); rfl) | (apply op_len (xs := z.recs); rfl) | (apply op_sneq (a := a.name) (b := z.name); rfl; rfl) | (exact bsO)) | apply J.seq | apply E.next | apply J.lq | apply Lq.nil | apply PRun.nil | apply J.block | apply E.in_normal | apply J.skip | (apply Lq.store; rfl; rfl; exact bsP; exact bsS; rfl; rfl) | (apply PRun.al; rfl) | (apply Lq.al; rfl; rfl; intro b) | (apply Open.cons; intro b) | apply Open.nil | (apply Lq.pass; rfl; rfl; rfl) | (apply PRun.pass; rfl; rfl) | (apply Lq.skip; rfl; rfl; rfl; exact bsB) | (apply PRun.skip; rfl; rfl; exact bsB) | (apply J.drawN; exact mixed; kernel_rfl) | (apply J.cond_t; rfl) | (apply J.cond_f; rfl) | apply J.exit | apply E.then_exit | apply E.in_exit | (apply E.in_other; rfl))
    rw [hd]
    repeat (first | ((first | (apply Lq.s; rfl) | apply PRun.s | (apply Lq.run; rfl; rfl; rfl; exact bsB) | (apply PRun.run; rfl; rfl; exact bsB)); first | (apply op_box streamT; rfl) | (apply op_faddr stream_name; rfl; decide) | (apply op_faddr stream_retain; rfl; decide) | (apply op_faddr stream_recs; rfl; decide) | (apply op_load strT; rfl) | (apply op_load (intT .i64); rfl) | (apply op_load (slT recT); rfl) | (apply op_len (xs := a.recs); rfl) | (apply op_len (xs := z.recs); rfl) | (apply op_sneq (a := a.name) (b := z.name); rfl; rfl) | (exact bsO)) | apply J.seq | apply E.next | apply J.lq | apply Lq.nil | apply PRun.nil | apply J.block | apply E.in_normal | apply J.skip | (apply Lq.store; rfl; rfl; exact bsP; exact bsS; rfl; rfl) | (apply PRun.al; rfl) | (apply Lq.al; rfl; rfl; intro b) | (apply Open.cons; intro b) | apply Open.nil | (apply Lq.pass; rfl; rfl; rfl) | (apply PRun.pass; rfl; rfl) | (apply Lq.skip; rfl; rfl; rfl; exact bsB) | (apply PRun.skip; rfl; rfl; exact bsB) | (apply J.drawN; exact mixed; kernel_rfl) | (apply J.cond_t; rfl) | (apply J.cond_f; rfl) | apply J.exit | apply E.then_exit | apply E.in_exit | (apply E.in_other; rfl))
    (refine J.ret ?_; (repeat (first | refine E.then_ret ?_ | refine E.in_ret ?_)))
    exact E.ret1 rfl rfl
  have hd : decide (a.name = z.name) = true := decide_eq_true h1
  by_cases h2 : a.retain ≤ z.retain
  case neg =>
    rw [longerS_1 fun h => h2 h.2.1]
    refine Fn.mk' 55 Try.func38 rfl rfl rfl rfl fun w0 H0 => ?_
    repeat (first | ((first | (apply Lq.s; rfl) | apply PRun.s | (apply Lq.run; rfl; rfl; rfl; exact bsB) | (apply PRun.run; rfl; rfl; exact bsB)); first | (apply op_box streamT; rfl) | (apply op_faddr stream_name; rfl; decide) | (apply op_faddr stream_retain; rfl; decide) | (apply op_faddr stream_recs; rfl; decide) | (apply op_load strT; rfl) | (apply op_load (intT .i64); rfl) | (apply op_load (slT recT); rfl) | (apply op_len (xs := a.recs); rfl) | (apply op_len (xs := z.recs); rfl) | (apply op_sneq (a := a.name) (b := z.name); rfl; rfl) | (exact bsO)) | apply J.seq | apply E.next | apply J.lq | apply Lq.nil | apply PRun.nil | apply J.block | apply E.in_normal | apply J.skip | (apply Lq.store; rfl; rfl; exact bsP; exact bsS; rfl; rfl) | (apply PRun.al; rfl) | (apply Lq.al; rfl; rfl; intro b) | (apply Open.cons; intro b) | apply Open.nil | (apply Lq.pass; rfl; rfl; rfl) | (apply PRun.pass; rfl; rfl) | (apply Lq.skip; rfl; rfl; rfl; exact bsB) | (apply PRun.skip; rfl; rfl; exact bsB) | (apply J.drawN; exact mixed; kernel_rfl) | (apply J.cond_t; rfl) | (apply J.cond_f; rfl) | apply J.exit | apply E.then_exit | apply E.in_exit | (apply E.in_other; rfl))
    rw [hd]
    repeat (first | ((first | (apply Lq.s; rfl) | apply PRun.s | (apply Lq.run; rfl; rfl; rfl; exact bsB) | (apply PRun.run; rfl; rfl; exact bsB)); first | (apply op_box streamT; rfl) | (apply op_faddr stream_name; rfl; decide) | (apply op_faddr stream_retain; rfl; decide) | (apply op_faddr stream_recs; rfl; decide) | (apply op_load strT; rfl) | (apply op_load (intT .i64); rfl) | (apply op_load (slT recT); rfl) | (apply op_len (xs := a.recs); rfl) | (apply op_len (xs := z.recs); rfl) | (apply op_sneq (a := a.name) (b := z.name); rfl; rfl) | (exact bsO)) | apply J.seq | apply E.next | apply J.lq | apply Lq.nil | apply PRun.nil | apply J.block | apply E.in_normal | apply J.skip | (apply Lq.store; rfl; rfl; exact bsP; exact bsS; rfl; rfl) | (apply PRun.al; rfl) | (apply Lq.al; rfl; rfl; intro b) | (apply Open.cons; intro b) | apply Open.nil | (apply Lq.pass; rfl; rfl; rfl) | (apply PRun.pass; rfl; rfl) | (apply Lq.skip; rfl; rfl; rfl; exact bsB) | (apply PRun.skip; rfl; rfl; exact bsB) | (apply J.drawN; exact mixed; kernel_rfl) | (apply J.cond_t; rfl) | (apply J.cond_f; rfl) | apply J.exit | apply E.then_exit | apply E.in_exit | (apply E.in_other; rfl))
    (refine J.ret ?_; (repeat (first | refine E.then_ret ?_ | refine E.in_ret ?_)))
    exact E.ret1 rfl rfl
  by_cases h3 : a.recs.length ≤ z.recs.length
  case neg =>
    rw [longerS_1 fun h => h3 h.2.2]
    refine Fn.mk' 55 Try.func38 rfl rfl rfl rfl fun w0 H0 => ?_
    repeat (first | ((first | (apply Lq.s; rfl) | apply PRun.s | (apply Lq.run; rfl; rfl; rfl; exact bsB) | (apply PRun.run; rfl; rfl; exact bsB)); first | (apply op_box streamT; rfl) | (apply op_faddr stream_name; rfl; decide) | (apply op_faddr stream_retain; rfl; decide) | (apply op_faddr stream_recs; rfl; decide) | (apply op_load strT; rfl) | (apply op_load (intT .i64); rfl) | (apply op_load (slT recT); rfl) | (apply op_len (xs := a.recs); rfl) | (apply op_len (xs := z.recs); rfl) | (apply op_sneq (a := a.name) (b := z.name); rfl; rfl) | (exact bsO)) | apply J.seq | apply E.next | apply J.lq | apply Lq.nil | apply PRun.nil | apply J.block | apply E.in_normal | apply J.skip | (apply Lq.store; rfl; rfl; exact bsP; exact bsS; rfl; rfl) | (apply PRun.al; rfl) | (apply Lq.al; rfl; rfl; intro b) | (apply Open.cons; intro b) | apply Open.nil | (apply Lq.pass; rfl; rfl; rfl) | (apply PRun.pass; rfl; rfl) | (apply Lq.skip; rfl; rfl; rfl; exact bsB) | (apply PRun.skip; rfl; rfl; exact bsB) | (apply J.drawN; exact mixed; kernel_rfl) | (apply J.cond_t; rfl) | (apply J.cond_f; rfl) | apply J.exit | apply E.then_exit | apply E.in_exit | (apply E.in_other; rfl))
    rw [hd]
    repeat (first | ((first | (apply Lq.s; rfl) | apply PRun.s | (apply Lq.run; rfl; rfl; rfl; exact bsB) | (apply PRun.run; rfl; rfl; exact bsB)); first | (apply op_box streamT; rfl) | (apply op_faddr stream_name; rfl; decide) | (apply op_faddr stream_retain; rfl; decide) | (apply op_faddr stream_recs; rfl; decide) | (apply op_load strT; rfl) | (apply op_load (intT .i64); rfl) | (apply op_load (slT recT); rfl) | (apply op_len (xs := a.recs); rfl) | (apply op_len (xs := z.recs); rfl) | (apply op_sneq (a := a.name) (b := z.name); rfl; rfl) | (exact bsO)) | apply J.seq | apply E.next | apply J.lq | apply Lq.nil | apply PRun.nil | apply J.block | apply E.in_normal | apply J.skip | (apply Lq.store; rfl; rfl; exact bsP; exact bsS; rfl; rfl) | (apply PRun.al; rfl) | (apply Lq.al; rfl; rfl; intro b) | (apply Open.cons; intro b) | apply Open.nil | (apply Lq.pass; rfl; rfl; rfl) | (apply PRun.pass; rfl; rfl) | (apply Lq.skip; rfl; rfl; rfl; exact bsB) | (apply PRun.skip; rfl; rfl; exact bsB) | (apply J.drawN; exact mixed; kernel_rfl) | (apply J.cond_t; rfl) | (apply J.cond_f; rfl) | apply J.exit | apply E.then_exit | apply E.in_exit | (apply E.in_other; rfl))
    (refine J.ret ?_; (repeat (first | refine E.then_ret ?_ | refine E.in_ret ?_)))
    exact E.ret1 rfl rfl
  rw [longerS_2 h1 h2 h3]
  refine Fn.mk' 55 Try.func38 rfl rfl rfl rfl fun w0 H0 => ?_
  repeat (first | ((first | (apply Lq.s; rfl) | apply PRun.s | (apply Lq.run; rfl; rfl; rfl; exact bsB) | (apply PRun.run; rfl; rfl; exact bsB)); first | (apply op_box streamT; rfl) | (apply op_faddr stream_name; rfl; decide) | (apply op_faddr stream_retain; rfl; decide) | (apply op_faddr stream_recs; rfl; decide) | (apply op_load strT; rfl) | (apply op_load (intT .i64); rfl) | (apply op_load (slT recT); rfl) | (apply op_len (xs := a.recs); rfl) | (apply op_len (xs := z.recs); rfl) | (apply op_sneq (a := a.name) (b := z.name); rfl; rfl) | (exact bsO)) | apply J.seq | apply E.next | apply J.lq | apply Lq.nil | apply PRun.nil | apply J.block | apply E.in_normal | apply J.skip | (apply Lq.store; rfl; rfl; exact bsP; exact bsS; rfl; rfl) | (apply PRun.al; rfl) | (apply Lq.al; rfl; rfl; intro b) | (apply Open.cons; intro b) | apply Open.nil | (apply Lq.pass; rfl; rfl; rfl) | (apply PRun.pass; rfl; rfl) | (apply Lq.skip; rfl; rfl; rfl; exact bsB) | (apply PRun.skip; rfl; rfl; exact bsB) | (apply J.drawN; exact mixed; kernel_rfl) | (apply J.cond_t; rfl) | (apply J.cond_f; rfl) | apply J.exit | apply E.then_exit | apply E.in_exit | (apply E.in_other; rfl))
  rw [hd]
  repeat (first | ((first | (apply Lq.s; rfl) | apply PRun.s | (apply Lq.run; rfl; rfl; rfl; exact bsB) | (apply PRun.run; rfl; rfl; exact bsB)); first | (apply op_box streamT; rfl) | (apply op_faddr stream_name; rfl; decide) | (apply op_faddr stream_retain; rfl; decide) | (apply op_faddr stream_recs; rfl; decide) | (apply op_load strT; rfl) | (apply op_load (intT .i64); rfl) | (apply op_load (slT recT); rfl) | (apply op_len (xs := a.recs); rfl) | (apply op_len (xs := z.recs); rfl) | (apply op_sneq (a := a.name) (b := z.name); rfl; rfl) | (exact bsO)) | apply J.seq | apply E.next | apply J.lq | apply Lq.nil | apply PRun.nil | apply J.block | apply E.in_normal | apply J.skip | (apply Lq.store; rfl; rfl; exact bsP; exact bsS; rfl; rfl) | (apply PRun.al; rfl) | (apply Lq.al; rfl; rfl; intro b) | (apply Open.cons; intro b) | apply Open.nil | (apply Lq.pass; rfl; rfl; rfl) | (apply PRun.pass; rfl; rfl) | (apply Lq.skip; rfl; rfl; rfl; exact bsB) | (apply PRun.skip; rfl; rfl; exact bsB) | (apply J.drawN; exact mixed; kernel_rfl) | (apply J.cond_t; rfl) | (apply J.cond_f; rfl) | apply J.exit | apply E.then_exit | apply E.in_exit | (apply E.in_other; rfl))
  refine J.loop (fun i : Nat => i ≤ a.recs.length ∧ ∀ (j : Nat) (x y : Rec), j < i → a.recs[j]? = some x → z.recs[j]? = some y → recLe x y = true) (fun i => [(3, ptr (streamT.cells z)), (30, sl recT.toTy a.recs), (31, is (.int .i64 (a.recs.length : Int))), (32, is (.int .i64 (i : Int)))]) (fun _ => []) (fun i => a.recs.length - i) 0 ⟨Nat.zero_le _, fun j x y hj => by omega⟩ (Sub.same (by repeat' (first | exact trivial | refine ⟨rfl, ?_⟩))) ?_
  rintro i ⟨hi, hp⟩
  by_cases hlt : i < a.recs.length
  case neg =>
    obtain rfl : i = a.recs.length := by omega
    repeat (first | ((first | (apply Lq.s; rfl) | apply PRun.s | (apply Lq.run; rfl; rfl; rfl; exact bsB) | (apply PRun.run; rfl; rfl; exact bsB)); first | (exact bsO)) | apply J.seq | apply E.next | apply J.lq | apply Lq.nil | apply PRun.nil | apply J.block | apply E.in_normal | apply J.skip | (apply Lq.store; rfl; rfl; exact bsP; exact bsS; rfl; rfl) | (apply PRun.al; rfl) | (apply Lq.al; rfl; rfl; intro b) | (apply Open.cons; intro b) | apply Open.nil | (apply Lq.pass; rfl; rfl; rfl) | (apply PRun.pass; rfl; rfl) | (apply Lq.skip; rfl; rfl; rfl; exact bsB) | (apply PRun.skip; rfl; rfl; exact bsB) | (apply J.drawN; exact mixed; kernel_rfl) | (apply J.cond_t; rfl) | (apply J.cond_f; rfl) | apply J.exit | apply E.then_exit | apply E.in_exit | (apply E.in_other; rfl))
    (refine J.ret ?_; (repeat (first | refine E.then_ret ?_ | refine E.in_ret ?_)))
    rw [all2B_iff.2 fun j x y hx hy => hp j x y (List.getElem?_eq_some_iff.1 hx).1 hx hy]
    exact E.ret1 rfl rfl
  obtain ⟨x, hx⟩ : ∃ x, a.recs[i]? = some x := ⟨_, List.getElem?_eq_getElem hlt⟩
  obtain ⟨y, hy⟩ : ∃ y, z.recs[i]? = some y := ⟨_, List.getElem?_eq_getElem (by omega)⟩
  have bad : recLe x y = false → all2B recLe a.recs z.recs = false := fun h => all2B_f i x y hx hy h
  have again : recLe x y = true → ∀ (j : Nat) (u v : Rec), j < i + 1 → a.recs[j]? = some u → z.recs[j]? = some v → recLe u v = true := fun h j u v hj hu hv => by
    rcases Nat.lt_or_eq_of_le (Nat.le_of_lt_succ hj) with h' | rfl
    · exact hp j u v h' hu hv
    · rw [hx] at hu; injection hu with hu; subst hu
      rw [hy] at hv; injection hv with hv; subst hv
      exact h
  repeat (first | ((first | (apply Lq.s; rfl) | apply PRun.s | (apply Lq.run; rfl; rfl; rfl; exact bsB) | (apply PRun.run; rfl; rfl; exact bsB)); first | (exact bsO)) | apply J.seq | apply E.next | apply J.lq | apply Lq.nil | apply PRun.nil | apply J.block | apply E.in_normal | apply J.skip | (apply Lq.store; rfl; rfl; exact bsP; exact bsS; rfl; rfl) | (apply PRun.al; rfl) | (apply Lq.al; rfl; rfl; intro b) | (apply Open.cons; intro b) | apply Open.nil | (apply Lq.pass; rfl; rfl; rfl) | (apply PRun.pass; rfl; rfl) | (apply Lq.skip; rfl; rfl; rfl; exact bsB) | (apply PRun.skip; rfl; rfl; exact bsB) | (apply J.drawN; exact mixed; kernel_rfl) | (apply J.cond_t; rfl) | (apply J.cond_f; rfl) | apply J.exit | apply E.then_exit | apply E.in_exit | (apply E.in_other; rfl))
  (apply Lq.s; rfl; (apply op_iaddr recT.toTy (x := x); rfl; rfl; exact Int.natCast_nonneg _; (rw [Int.toNat_natCast]; exact hx)))
  (apply Lq.s; rfl; (apply op_load recT; rfl))
  (apply Lq.al; rfl; rfl; intro bb)
  (apply Lq.s; rfl; (apply op_assign; rfl))
  (apply Lq.storeE (φs' := recT.cells x); rfl; rfl; exact List.Perm.refl _; exact Seg.val _ _; exact recT.len _; exact Nat.le_refl 37; exact splice_all (by rw [recT.len]; rfl))
  repeat (first | ((first | (apply Lq.s; rfl) | apply PRun.s | (apply Lq.run; rfl; rfl; rfl; exact bsB) | (apply PRun.run; rfl; rfl; exact bsB)); first | (apply op_box streamT; rfl) | (apply op_faddr stream_name; rfl; decide) | (apply op_faddr stream_retain; rfl; decide) | (apply op_faddr stream_recs; rfl; decide) | (apply op_load strT; rfl) | (apply op_load (intT .i64); rfl) | (apply op_load (slT recT); rfl) | (apply op_len (xs := a.recs); rfl) | (apply op_len (xs := z.recs); rfl) | (apply op_sneq (a := a.name) (b := z.name); rfl; rfl) | (exact bsO)) | apply J.seq | apply E.next | apply J.lq | apply Lq.nil | apply PRun.nil | apply J.block | apply E.in_normal | apply J.skip | (apply Lq.store; rfl; rfl; exact bsP; exact bsS; rfl; rfl) | (apply PRun.al; rfl) | (apply Lq.al; rfl; rfl; intro b) | (apply Open.cons; intro b) | apply Open.nil | (apply Lq.pass; rfl; rfl; rfl) | (apply PRun.pass; rfl; rfl) | (apply Lq.skip; rfl; rfl; rfl; exact bsB) | (apply PRun.skip; rfl; rfl; exact bsB) | (apply J.drawN; exact mixed; kernel_rfl) | (apply J.cond_t; rfl) | (apply J.cond_f; rfl) | apply J.exit | apply E.then_exit | apply E.in_exit | (apply E.in_other; rfl))
  (apply Lq.s; rfl; (apply op_iaddr recT.toTy (x := y); rfl; rfl; exact Int.natCast_nonneg _; (rw [Int.toNat_natCast]; exact hy)))
  (apply Lq.s; rfl; (apply op_load recT; rfl))
  (apply Lq.al; rfl; rfl; intro bb)
  (apply Lq.storeE (φs' := recT.cells y); rfl; rfl; exact List.Perm.refl _; exact Seg.val _ _; exact recT.len _; exact Nat.le_refl 37; exact splice_all (by rw [recT.len]; rfl))
  repeat (first | ((first | (apply Lq.s; rfl) | apply PRun.s | (apply Lq.run; rfl; rfl; rfl; exact bsB) | (apply PRun.run; rfl; rfl; exact bsB)); first | (exact bsO)) | apply J.seq | apply E.next | apply J.lq | apply Lq.nil | apply PRun.nil | apply J.block | apply E.in_normal | apply J.skip | (apply Lq.store; rfl; rfl; exact bsP; exact bsS; rfl; rfl) | (apply PRun.al; rfl) | (apply Lq.al; rfl; rfl; intro b) | (apply Open.cons; intro b) | apply Open.nil | (apply Lq.pass; rfl; rfl; rfl) | (apply PRun.pass; rfl; rfl) | (apply Lq.skip; rfl; rfl; rfl; exact bsB) | (apply PRun.skip; rfl; rfl; exact bsB) | (apply J.drawN; exact mixed; kernel_rfl) | (apply J.cond_t; rfl) | (apply J.cond_f; rfl) | apply J.exit | apply E.then_exit | apply E.in_exit | (apply E.in_other; rfl))
  rename_i b6 b7
  have hox : (recT.cells x).drop 36 = boolT.cells x.shredded := by rw [rec_split3, List.drop_left' (by rw [List.length_append, List.length_append, hashT.len, runT.len]; rfl), List.append_nil]
  have hoy : (recT.cells y).drop 36 = boolT.cells y.shredded := by rw [rec_split3, List.drop_left' (by rw [List.length_append, List.length_append, hashT.len, runT.len]; rfl), List.append_nil]
  have lx : ((recT.cells x).drop (0 + 36)).take boolT.sz = boolT.cells x.shredded := by rw [Nat.zero_add, hox]; rfl
  have ly : ((recT.cells y).drop (0 + 36)).take boolT.sz = boolT.cells y.shredded := by rw [Nat.zero_add, hoy]; rfl
  by_cases hbad : x.shredded = true ∧ y.shredded = false
  · rw [bad (by unfold recLe; rw [hbad.1, hbad.2]; rfl)]
    repeat (first | ((first | (apply Lq.s; rfl) | apply PRun.s | (apply Lq.run; rfl; rfl; rfl; exact bsB) | (apply PRun.run; rfl; rfl; exact bsB)); first | (apply op_oload boolT (x := x.shredded); rfl; exact bsM; exact lx) | (exact bsO)) | apply J.seq | apply E.next | apply J.lq | apply Lq.nil | apply PRun.nil | apply J.block | apply E.in_normal | apply J.skip | (apply Lq.store; rfl; rfl; exact bsP; exact bsS; rfl; rfl) | (apply PRun.al; rfl) | (apply Lq.al; rfl; rfl; intro b) | (apply Open.cons; intro b) | apply Open.nil | (apply Lq.pass; rfl; rfl; rfl) | (apply PRun.pass; rfl; rfl) | (apply Lq.skip; rfl; rfl; rfl; exact bsB) | (apply PRun.skip; rfl; rfl; exact bsB) | (apply J.drawN; exact mixed; kernel_rfl) | (apply J.cond_t; rfl) | (apply J.cond_f; rfl) | apply J.exit | apply E.then_exit | apply E.in_exit | (apply E.in_other; rfl))
    rw [hbad.1]
    repeat (first | ((first | (apply Lq.s; rfl) | apply PRun.s | (apply Lq.run; rfl; rfl; rfl; exact bsB) | (apply PRun.run; rfl; rfl; exact bsB)); first | (apply op_oload boolT (x := y.shredded); rfl; exact bsM; exact ly) | (exact bsO)) | apply J.seq | apply E.next | apply J.lq | apply Lq.nil | apply PRun.nil | apply J.block | apply E.in_normal | apply J.skip | (apply Lq.store; rfl; rfl; exact bsP; exact bsS; rfl; rfl) | (apply PRun.al; rfl) | (apply Lq.al; rfl; rfl; intro b) | (apply Open.cons; intro b) | apply Open.nil | (apply Lq.pass; rfl; rfl; rfl) | (apply PRun.pass; rfl; rfl) | (apply Lq.skip; rfl; rfl; rfl; exact bsB) | (apply PRun.skip; rfl; rfl; exact bsB) | (apply J.drawN; exact mixed; kernel_rfl) | (apply J.cond_t; rfl) | (apply J.cond_f; rfl) | apply J.exit | apply E.then_exit | apply E.in_exit | (apply E.in_other; rfl))
    rw [hbad.2]
    repeat (first | ((first | (apply Lq.s; rfl) | apply PRun.s | (apply Lq.run; rfl; rfl; rfl; exact bsB) | (apply PRun.run; rfl; rfl; exact bsB)); first | (exact bsO)) | apply J.seq | apply E.next | apply J.lq | apply Lq.nil | apply PRun.nil | apply J.block | apply E.in_normal | apply J.skip | (apply Lq.store; rfl; rfl; exact bsP; exact bsS; rfl; rfl) | (apply PRun.al; rfl) | (apply Lq.al; rfl; rfl; intro b) | (apply Open.cons; intro b) | apply Open.nil | (apply Lq.pass; rfl; rfl; rfl) | (apply PRun.pass; rfl; rfl) | (apply Lq.skip; rfl; rfl; rfl; exact bsB) | (apply PRun.skip; rfl; rfl; exact bsB) | (apply J.drawN; exact mixed; kernel_rfl) | (apply J.cond_t; rfl) | (apply J.cond_f; rfl) | apply J.exit | apply E.then_exit | apply E.in_exit | (apply E.in_other; rfl))
    (refine J.ret ?_; (repeat (first | refine E.then_ret ?_ | refine E.in_ret ?_)))
    exact E.ret1 rfl rfl
  have hle : recLe x y = decide (cover x = cover y) := by
    unfold recLe
    cases hs : x.shredded <;> cases ht : y.shredded <;> first | rfl | exact absurd ⟨hs, ht⟩ hbad
  rw [hle] at bad again
  cases hs : x.shredded
  · skip
    repeat (first | ((first | (apply Lq.s; rfl) | apply PRun.s | (apply Lq.run; rfl; rfl; rfl; exact bsB) | (apply PRun.run; rfl; rfl; exact bsB)); first | (apply op_oload boolT (x := x.shredded); rfl; exact bsM; exact lx) | (exact bsO)) | apply J.seq | apply E.next | apply J.lq | apply Lq.nil | apply PRun.nil | apply J.block | apply E.in_normal | apply J.skip | (apply Lq.store; rfl; rfl; exact bsP; exact bsS; rfl; rfl) | (apply PRun.al; rfl) | (apply Lq.al; rfl; rfl; intro b) | (apply Open.cons; intro b) | apply Open.nil | (apply Lq.pass; rfl; rfl; rfl) | (apply PRun.pass; rfl; rfl) | (apply Lq.skip; rfl; rfl; rfl; exact bsB) | (apply PRun.skip; rfl; rfl; exact bsB) | (apply J.drawN; exact mixed; kernel_rfl) | (apply J.cond_t; rfl) | (apply J.cond_f; rfl) | apply J.exit | apply E.then_exit | apply E.in_exit | (apply E.in_other; rfl))
    rw [hs]
    repeat (first | ((first | (apply Lq.s; rfl) | apply PRun.s | (apply Lq.run; rfl; rfl; rfl; exact bsB) | (apply PRun.run; rfl; rfl; exact bsB)); first | (exact bsO)) | apply J.seq | apply E.next | apply J.lq | apply Lq.nil | apply PRun.nil | apply J.block | apply E.in_normal | apply J.skip | (apply Lq.store; rfl; rfl; exact bsP; exact bsS; rfl; rfl) | (apply PRun.al; rfl) | (apply Lq.al; rfl; rfl; intro b) | (apply Open.cons; intro b) | apply Open.nil | (apply Lq.pass; rfl; rfl; rfl) | (apply PRun.pass; rfl; rfl) | (apply Lq.skip; rfl; rfl; rfl; exact bsB) | (apply PRun.skip; rfl; rfl; exact bsB) | (apply J.drawN; exact mixed; kernel_rfl) | (apply J.cond_t; rfl) | (apply J.cond_f; rfl) | apply J.exit | apply E.then_exit | apply E.in_exit | (apply E.in_other; rfl))
    (apply Lq.storeE (φs' := recT.cells (cover x)); rfl; rfl; exact bsP; exact Seg.is rfl; rfl; (rw [recT.len]; exact Nat.le_refl 37); (rw [Nat.zero_add]; exact rec_cover x))
    repeat (first | ((first | (apply Lq.s; rfl) | apply PRun.s | (apply Lq.run; rfl; rfl; rfl; exact bsB) | (apply PRun.run; rfl; rfl; exact bsB)); first | (exact bsO)) | apply J.seq | apply E.next | apply J.lq | apply Lq.nil | apply PRun.nil | apply J.block | apply E.in_normal | apply J.skip | (apply Lq.store; rfl; rfl; exact bsP; exact bsS; rfl; rfl) | (apply PRun.al; rfl) | (apply Lq.al; rfl; rfl; intro b) | (apply Open.cons; intro b) | apply Open.nil | (apply Lq.pass; rfl; rfl; rfl) | (apply PRun.pass; rfl; rfl) | (apply Lq.skip; rfl; rfl; rfl; exact bsB) | (apply PRun.skip; rfl; rfl; exact bsB) | (apply J.drawN; exact mixed; kernel_rfl) | (apply J.cond_t; rfl) | (apply J.cond_f; rfl) | apply J.exit | apply E.then_exit | apply E.in_exit | (apply E.in_other; rfl))
    (apply Lq.storeE (φs' := recT.cells (cover y)); rfl; rfl; exact bsP; exact Seg.is rfl; rfl; (rw [recT.len]; exact Nat.le_refl 37); (rw [Nat.zero_add]; exact rec_cover y))
    by_cases hxy : cover x = cover y
    · repeat (first | ((first | (apply Lq.s; rfl) | apply PRun.s | (apply Lq.run; rfl; rfl; rfl; exact bsB) | (apply PRun.run; rfl; rfl; exact bsB)); first | (apply op_oload recT (x := cover x); rfl; exact bsM; exact List.take_of_length_le (Nat.le_of_eq (recT.len _))) | (apply op_oload recT (x := cover y); rfl; exact bsM; exact List.take_of_length_le (Nat.le_of_eq (recT.len _))) | (apply op_neA_f (T := recT) (m := 3) eqd_rec rfl rfl; rfl; rfl; exact hxy) | (apply op_add (c := ((i + 1 : Nat) : Int)); rfl; rfl; (rw [show (i : Int) + 1 = ((i + 1 : Nat) : Int) by omega]; apply wrapi <;> omega)) | (exact bsO)) | apply J.seq | apply E.next | apply J.lq | apply Lq.nil | apply PRun.nil | apply J.block | apply E.in_normal | apply J.skip | (apply Lq.store; rfl; rfl; exact bsP; exact bsS; rfl; rfl) | (apply PRun.al; rfl) | (apply Lq.al; rfl; rfl; intro b) | (apply Open.cons; intro b) | apply Open.nil | (apply Lq.pass; rfl; rfl; rfl) | (apply PRun.pass; rfl; rfl) | (apply Lq.skip; rfl; rfl; rfl; exact bsB) | (apply PRun.skip; rfl; rfl; exact bsB) | (apply J.drawN; exact mixed; kernel_rfl) | (apply J.cond_t; rfl) | (apply J.cond_f; rfl) | apply J.exit | apply E.then_exit | apply E.in_exit | (apply E.in_other; rfl))
      exact E.again (i + 1) (by omega) ⟨by omega, again (decide_eq_true hxy)⟩ ⟨(by repeat' (first | exact trivial | refine ⟨rfl, ?_⟩)), [_, _], List.Perm.refl _⟩
    · repeat (first | ((first | (apply Lq.s; rfl) | apply PRun.s | (apply Lq.run; rfl; rfl; rfl; exact bsB) | (apply PRun.run; rfl; rfl; exact bsB)); first | (apply op_oload recT (x := cover x); rfl; exact bsM; exact List.take_of_length_le (Nat.le_of_eq (recT.len _))) | (apply op_oload recT (x := cover y); rfl; exact bsM; exact List.take_of_length_le (Nat.le_of_eq (recT.len _))) | (apply op_neA_t (T := recT) (m := 3) eqd_rec rfl rfl; rfl; rfl; exact hxy) | (exact bsO)) | apply J.seq | apply E.next | apply J.lq | apply Lq.nil | apply PRun.nil | apply J.block | apply E.in_normal | apply J.skip | (apply Lq.store; rfl; rfl; exact bsP; exact bsS; rfl; rfl) | (apply PRun.al; rfl) | (apply Lq.al; rfl; rfl; intro b) | (apply Open.cons; intro b) | apply Open.nil | (apply Lq.pass; rfl; rfl; rfl) | (apply PRun.pass; rfl; rfl) | (apply Lq.skip; rfl; rfl; rfl; exact bsB) | (apply PRun.skip; rfl; rfl; exact bsB) | (apply J.drawN; exact mixed; kernel_rfl) | (apply J.cond_t; rfl) | (apply J.cond_f; rfl) | apply J.exit | apply E.then_exit | apply E.in_exit | (apply E.in_other; rfl))
      (refine J.ret ?_; (repeat (first | refine E.then_ret ?_ | refine E.in_ret ?_)))
      rw [bad (decide_eq_false hxy)]
      exact E.ret1 rfl rfl
  · skip
    have ht : y.shredded = true := by cases ht : y.shredded with | true => rfl | false => exact absurd ⟨hs, ht⟩ hbad
    repeat (first | ((first | (apply Lq.s; rfl) | apply PRun.s | (apply Lq.run; rfl; rfl; rfl; exact bsB) | (apply PRun.run; rfl; rfl; exact bsB)); first | (apply op_oload boolT (x := x.shredded); rfl; exact bsM; exact lx) | (exact bsO)) | apply J.seq | apply E.next | apply J.lq | apply Lq.nil | apply PRun.nil | apply J.block | apply E.in_normal | apply J.skip | (apply Lq.store; rfl; rfl; exact bsP; exact bsS; rfl; rfl) | (apply PRun.al; rfl) | (apply Lq.al; rfl; rfl; intro b) | (apply Open.cons; intro b) | apply Open.nil | (apply Lq.pass; rfl; rfl; rfl) | (apply PRun.pass; rfl; rfl) | (apply Lq.skip; rfl; rfl; rfl; exact bsB) | (apply PRun.skip; rfl; rfl; exact bsB) | (apply J.drawN; exact mixed; kernel_rfl) | (apply J.cond_t; rfl) | (apply J.cond_f; rfl) | apply J.exit | apply E.then_exit | apply E.in_exit | (apply E.in_other; rfl))
    rw [hs]
    repeat (first | ((first | (apply Lq.s; rfl) | apply PRun.s | (apply Lq.run; rfl; rfl; rfl; exact bsB) | (apply PRun.run; rfl; rfl; exact bsB)); first | (apply op_oload boolT (x := y.shredded); rfl; exact bsM; exact ly) | (exact bsO)) | apply J.seq | apply E.next | apply J.lq | apply Lq.nil | apply PRun.nil | apply J.block | apply E.in_normal | apply J.skip | (apply Lq.store; rfl; rfl; exact bsP; exact bsS; rfl; rfl) | (apply PRun.al; rfl) | (apply Lq.al; rfl; rfl; intro b) | (apply Open.cons; intro b) | apply Open.nil | (apply Lq.pass; rfl; rfl; rfl) | (apply PRun.pass; rfl; rfl) | (apply Lq.skip; rfl; rfl; rfl; exact bsB) | (apply PRun.skip; rfl; rfl; exact bsB) | (apply J.drawN; exact mixed; kernel_rfl) | (apply J.cond_t; rfl) | (apply J.cond_f; rfl) | apply J.exit | apply E.then_exit | apply E.in_exit | (apply E.in_other; rfl))
    rw [ht]
    repeat (first | ((first | (apply Lq.s; rfl) | apply PRun.s | (apply Lq.run; rfl; rfl; rfl; exact bsB) | (apply PRun.run; rfl; rfl; exact bsB)); first | (exact bsO)) | apply J.seq | apply E.next | apply J.lq | apply Lq.nil | apply PRun.nil | apply J.block | apply E.in_normal | apply J.skip | (apply Lq.store; rfl; rfl; exact bsP; exact bsS; rfl; rfl) | (apply PRun.al; rfl) | (apply Lq.al; rfl; rfl; intro b) | (apply Open.cons; intro b) | apply Open.nil | (apply Lq.pass; rfl; rfl; rfl) | (apply PRun.pass; rfl; rfl) | (apply Lq.skip; rfl; rfl; rfl; exact bsB) | (apply PRun.skip; rfl; rfl; exact bsB) | (apply J.drawN; exact mixed; kernel_rfl) | (apply J.cond_t; rfl) | (apply J.cond_f; rfl) | apply J.exit | apply E.then_exit | apply E.in_exit | (apply E.in_other; rfl))
    (apply Lq.storeE (φs' := recT.cells (cover x)); rfl; rfl; exact bsP; exact Seg.is rfl; rfl; (rw [recT.len]; exact Nat.le_refl 37); (rw [Nat.zero_add]; exact rec_cover x))
    repeat (first | ((first | (apply Lq.s; rfl) | apply PRun.s | (apply Lq.run; rfl; rfl; rfl; exact bsB) | (apply PRun.run; rfl; rfl; exact bsB)); first | (exact bsO)) | apply J.seq | apply E.next | apply J.lq | apply Lq.nil | apply PRun.nil | apply J.block | apply E.in_normal | apply J.skip | (apply Lq.store; rfl; rfl; exact bsP; exact bsS; rfl; rfl) | (apply PRun.al; rfl) | (apply Lq.al; rfl; rfl; intro b) | (apply Open.cons; intro b) | apply Open.nil | (apply Lq.pass; rfl; rfl; rfl) | (apply PRun.pass; rfl; rfl) | (apply Lq.skip; rfl; rfl; rfl; exact bsB) | (apply PRun.skip; rfl; rfl; exact bsB) | (apply J.drawN; exact mixed; kernel_rfl) | (apply J.cond_t; rfl) | (apply J.cond_f; rfl) | apply J.exit | apply E.then_exit | apply E.in_exit | (apply E.in_other; rfl))
    (apply Lq.storeE (φs' := recT.cells (cover y)); rfl; rfl; exact bsP; exact Seg.is rfl; rfl; (rw [recT.len]; exact Nat.le_refl 37); (rw [Nat.zero_add]; exact rec_cover y))
    by_cases hxy : cover x = cover y
    · repeat (first | ((first | (apply Lq.s; rfl) | apply PRun.s | (apply Lq.run; rfl; rfl; rfl; exact bsB) | (apply PRun.run; rfl; rfl; exact bsB)); first | (apply op_oload recT (x := cover x); rfl; exact bsM; exact List.take_of_length_le (Nat.le_of_eq (recT.len _))) | (apply op_oload recT (x := cover y); rfl; exact bsM; exact List.take_of_length_le (Nat.le_of_eq (recT.len _))) | (apply op_neA_f (T := recT) (m := 3) eqd_rec rfl rfl; rfl; rfl; exact hxy) | (apply op_add (c := ((i + 1 : Nat) : Int)); rfl; rfl; (rw [show (i : Int) + 1 = ((i + 1 : Nat) : Int) by omega]; apply wrapi <;> omega)) | (exact bsO)) | apply J.seq | apply E.next | apply J.lq | apply Lq.nil | apply PRun.nil | apply J.block | apply E.in_normal | apply J.skip | (apply Lq.store; rfl; rfl; exact bsP; exact bsS; rfl; rfl) | (apply PRun.al; rfl) | (apply Lq.al; rfl; rfl; intro b) | (apply Open.cons; intro b) | apply Open.nil | (apply Lq.pass; rfl; rfl; rfl) | (apply PRun.pass; rfl; rfl) | (apply Lq.skip; rfl; rfl; rfl; exact bsB) | (apply PRun.skip; rfl; rfl; exact bsB) | (apply J.drawN; exact mixed; kernel_rfl) | (apply J.cond_t; rfl) | (apply J.cond_f; rfl) | apply J.exit | apply E.then_exit | apply E.in_exit | (apply E.in_other; rfl))
      exact E.again (i + 1) (by omega) ⟨by omega, again (decide_eq_true hxy)⟩ ⟨(by repeat' (first | exact trivial | refine ⟨rfl, ?_⟩)), [_, _], List.Perm.refl _⟩
    · repeat (first | ((first | (apply Lq.s; rfl) | apply PRun.s | (apply Lq.run; rfl; rfl; rfl; exact bsB) | (apply PRun.run; rfl; rfl; exact bsB)); first | (apply op_oload recT (x := cover x); rfl; exact bsM; exact List.take_of_length_le (Nat.le_of_eq (recT.len _))) | (apply op_oload recT (x := cover y); rfl; exact bsM; exact List.take_of_length_le (Nat.le_of_eq (recT.len _))) | (apply op_neA_t (T := recT) (m := 3) eqd_rec rfl rfl; rfl; rfl; exact hxy) | (exact bsO)) | apply J.seq | apply E.next | apply J.lq | apply Lq.nil | apply PRun.nil | apply J.block | apply E.in_normal | apply J.skip | (apply Lq.store; rfl; rfl; exact bsP; exact bsS; rfl; rfl) | (apply PRun.al; rfl) | (apply Lq.al; rfl; rfl; intro b) | (apply Open.cons; intro b) | apply Open.nil | (apply Lq.pass; rfl; rfl; rfl) | (apply PRun.pass; rfl; rfl) | (apply Lq.skip; rfl; rfl; rfl; exact bsB) | (apply PRun.skip; rfl; rfl; exact bsB) | (apply J.drawN; exact mixed; kernel_rfl) | (apply J.cond_t; rfl) | (apply J.cond_f; rfl) | apply J.exit | apply E.then_exit | apply E.in_exit | (apply E.in_other; rfl))
      (refine J.ret ?_; (repeat (first | refine E.then_ret ?_ | refine E.in_ret ?_)))
      rw [bad (decide_eq_false hxy)]
      exact E.ret1 rfl rfl
set_option maxHeartbeats 1000000 in
theorem grown17_fn (a z : StateS) (ha : GoodT a) (hz : GoodT z) : Fn Try.prog 23 [stateT.val a, stateT.val z] (is (.bool (grownM a z))) := by
  have hla := ha.1
  have hlz := hz.1
  by_cases h1 : a.clock ≤ z.clock
  case neg =>
    rw [grownM_1 fun h => h1 h.1]
    refine Fn.mk' 38 Try.func23 rfl rfl rfl rfl fun w0 H0 => ?_
    repeat (first | ((first | (apply Lq.s; rfl) | apply PRun.s | (apply Lq.run; rfl; rfl; rfl; exact bsB) | (apply PRun.run; rfl; rfl; exact bsB)); first | (apply op_box stateT; rfl) | (apply op_faddr state_clock; rfl; decide) | (apply op_faddr state_streams; rfl; decide) | (apply op_load (intT .i64); rfl) | (apply op_load (slT streamT); rfl) | (apply op_load stateT; rfl) | (apply op_load streamT; rfl) | (apply op_len (xs := a.streams); rfl) | (apply op_len (xs := z.streams); rfl) | (exact bsO)) | apply J.seq | apply E.next | apply J.lq | apply Lq.nil | apply PRun.nil | apply J.block | apply E.in_normal | apply J.skip | (apply Lq.store; rfl; rfl; exact bsP; exact bsS; rfl; rfl) | (apply PRun.al; rfl) | (apply Lq.al; rfl; rfl; intro b) | (apply Open.cons; intro b) | apply Open.nil | (apply Lq.pass; rfl; rfl; rfl) | (apply PRun.pass; rfl; rfl) | (apply Lq.skip; rfl; rfl; rfl; exact bsB) | (apply PRun.skip; rfl; rfl; exact bsB) | (apply J.drawN; exact mixed; kernel_rfl) | (apply J.cond_t; rfl) | (apply J.cond_f; rfl) | apply J.exit | apply E.then_exit | apply E.in_exit | (apply E.in_other; rfl))
    (refine J.ret ?_; (repeat (first | refine E.then_ret ?_ | refine E.in_ret ?_)))
    exact E.ret1 rfl rfl
  by_cases h2 : a.streams.length ≤ z.streams.length
  case neg =>
    rw [grownM_1 fun h => h2 h.2]
    refine Fn.mk' 38 Try.func23 rfl rfl rfl rfl fun w0 H0 => ?_
    repeat (first | ((first | (apply Lq.s; rfl) | apply PRun.s | (apply Lq.run; rfl; rfl; rfl; exact bsB) | (apply PRun.run; rfl; rfl; exact bsB)); first | (apply op_box stateT; rfl) | (apply op_faddr state_clock; rfl; decide) | (apply op_faddr state_streams; rfl; decide) | (apply op_load (intT .i64); rfl) | (apply op_load (slT streamT); rfl) | (apply op_load stateT; rfl) | (apply op_load streamT; rfl) | (apply op_len (xs := a.streams); rfl) | (apply op_len (xs := z.streams); rfl) | (exact bsO)) | apply J.seq | apply E.next | apply J.lq | apply Lq.nil | apply PRun.nil | apply J.block | apply E.in_normal | apply J.skip | (apply Lq.store; rfl; rfl; exact bsP; exact bsS; rfl; rfl) | (apply PRun.al; rfl) | (apply Lq.al; rfl; rfl; intro b) | (apply Open.cons; intro b) | apply Open.nil | (apply Lq.pass; rfl; rfl; rfl) | (apply PRun.pass; rfl; rfl) | (apply Lq.skip; rfl; rfl; rfl; exact bsB) | (apply PRun.skip; rfl; rfl; exact bsB) | (apply J.drawN; exact mixed; kernel_rfl) | (apply J.cond_t; rfl) | (apply J.cond_f; rfl) | apply J.exit | apply E.then_exit | apply E.in_exit | (apply E.in_other; rfl))
    (refine J.ret ?_; (repeat (first | refine E.then_ret ?_ | refine E.in_ret ?_)))
    exact E.ret1 rfl rfl
  rw [grownM_2 h1 h2]
  refine Fn.mk' 38 Try.func23 rfl rfl rfl rfl fun w0 H0 => ?_
  repeat (first | ((first | (apply Lq.s; rfl) | apply PRun.s | (apply Lq.run; rfl; rfl; rfl; exact bsB) | (apply PRun.run; rfl; rfl; exact bsB)); first | (apply op_box stateT; rfl) | (apply op_faddr state_clock; rfl; decide) | (apply op_faddr state_streams; rfl; decide) | (apply op_load (intT .i64); rfl) | (apply op_load (slT streamT); rfl) | (apply op_load stateT; rfl) | (apply op_load streamT; rfl) | (apply op_len (xs := a.streams); rfl) | (apply op_len (xs := z.streams); rfl) | (exact bsO)) | apply J.seq | apply E.next | apply J.lq | apply Lq.nil | apply PRun.nil | apply J.block | apply E.in_normal | apply J.skip | (apply Lq.store; rfl; rfl; exact bsP; exact bsS; rfl; rfl) | (apply PRun.al; rfl) | (apply Lq.al; rfl; rfl; intro b) | (apply Open.cons; intro b) | apply Open.nil | (apply Lq.pass; rfl; rfl; rfl) | (apply PRun.pass; rfl; rfl) | (apply Lq.skip; rfl; rfl; rfl; exact bsB) | (apply PRun.skip; rfl; rfl; exact bsB) | (apply J.drawN; exact mixed; kernel_rfl) | (apply J.cond_t; rfl) | (apply J.cond_f; rfl) | apply J.exit | apply E.then_exit | apply E.in_exit | (apply E.in_other; rfl))
  refine J.loop (fun i : Nat => i ≤ a.streams.length ∧ ∀ (j : Nat) (x y : StreamS), j < i → a.streams[j]? = some x → z.streams[j]? = some y → longerS x y = true) (fun i => [(3, ptr (stateT.cells z)), (22, sl streamT.toTy a.streams), (23, is (.int .i64 (a.streams.length : Int))), (24, is (.int .i64 (i : Int)))]) (fun _ => []) (fun i => a.streams.length - i) 0 ⟨Nat.zero_le _, fun j x y hj => by omega⟩ (Sub.same (by repeat' (first | exact trivial | refine ⟨rfl, ?_⟩))) ?_
  rintro i ⟨hi, hp⟩
  by_cases hlt : i < a.streams.length
  case neg =>
    obtain rfl : i = a.streams.length := by omega
    repeat (first | ((first | (apply Lq.s; rfl) | apply PRun.s | (apply Lq.run; rfl; rfl; rfl; exact bsB) | (apply PRun.run; rfl; rfl; exact bsB)); first | (exact bsO)) | apply J.seq | apply E.next | apply J.lq | apply Lq.nil | apply PRun.nil | apply J.block | apply E.in_normal | apply J.skip | (apply Lq.store; rfl; rfl; exact bsP; exact bsS; rfl; rfl) | (apply PRun.al; rfl) | (apply Lq.al; rfl; rfl; intro b) | (apply Open.cons; intro b) | apply Open.nil | (apply Lq.pass; rfl; rfl; rfl) | (apply PRun.pass; rfl; rfl) | (apply Lq.skip; rfl; rfl; rfl; exact bsB) | (apply PRun.skip; rfl; rfl; exact bsB) | (apply J.drawN; exact mixed; kernel_rfl) | (apply J.cond_t; rfl) | (apply J.cond_f; rfl) | apply J.exit | apply E.then_exit | apply E.in_exit | (apply E.in_other; rfl))
    (refine J.ret ?_; (repeat (first | refine E.then_ret ?_ | refine E.in_ret ?_)))
    rw [all2B_iff.2 fun j x y hx hy => hp j x y (List.getElem?_eq_some_iff.1 hx).1 hx hy]
    exact E.ret1 rfl rfl
  obtain ⟨x, hx⟩ : ∃ x, a.streams[i]? = some x := ⟨_, List.getElem?_eq_getElem hlt⟩
  obtain ⟨y, hy⟩ : ∃ y, z.streams[i]? = some y := ⟨_, List.getElem?_eq_getElem (by omega)⟩
  have hlf := longer17_fn x y (ha.2 x (List.mem_of_getElem? hx)).2.1 (hz.2 y (List.mem_of_getElem? hy)).2.1
  repeat (first | ((first | (apply Lq.s; rfl) | apply PRun.s | (apply Lq.run; rfl; rfl; rfl; exact bsB) | (apply PRun.run; rfl; rfl; exact bsB)); first | (exact bsO)) | apply J.seq | apply E.next | apply J.lq | apply Lq.nil | apply PRun.nil | apply J.block | apply E.in_normal | apply J.skip | (apply Lq.store; rfl; rfl; exact bsP; exact bsS; rfl; rfl) | (apply PRun.al; rfl) | (apply Lq.al; rfl; rfl; intro b) | (apply Open.cons; intro b) | apply Open.nil | (apply Lq.pass; rfl; rfl; rfl) | (apply PRun.pass; rfl; rfl) | (apply Lq.skip; rfl; rfl; rfl; exact bsB) | (apply PRun.skip; rfl; rfl; exact bsB) | (apply J.drawN; exact mixed; kernel_rfl) | (apply J.cond_t; rfl) | (apply J.cond_f; rfl) | apply J.exit | apply E.then_exit | apply E.in_exit | (apply E.in_other; rfl))
  (apply Lq.s; rfl; (apply op_iaddr streamT.toTy (x := x); rfl; rfl; exact Int.natCast_nonneg _; (rw [Int.toNat_natCast]; exact hx)))
  (apply Lq.s; rfl; (apply op_load streamT; rfl))
  (apply Lq.al; rfl; rfl; intro bb)
  (apply Lq.s; rfl; (apply op_assign; rfl))
  (apply Lq.storeE (φs' := streamT.cells x); rfl; rfl; exact List.Perm.refl _; exact Seg.val _ _; rfl; exact Nat.le_refl 4; exact splice_all (by rw [streamT.len]; rfl))
  refine Lq.frzB 6 rfl (List.Perm.refl _) ?_
  cases ho : longerS x y
  · rw [ho] at hlf
    repeat (first | ((first | (apply Lq.s; rfl) | apply PRun.s | (apply Lq.run; rfl; rfl; rfl; exact bsB) | (apply PRun.run; rfl; rfl; exact bsB)); first | (apply op_box stateT; rfl) | (apply op_faddr state_clock; rfl; decide) | (apply op_faddr state_streams; rfl; decide) | (apply op_load (intT .i64); rfl) | (apply op_load (slT streamT); rfl) | (apply op_load stateT; rfl) | (apply op_load streamT; rfl) | (apply op_len (xs := a.streams); rfl) | (apply op_len (xs := z.streams); rfl) | (apply op_iaddr streamT.toTy (x := y); rfl; rfl; exact Int.natCast_nonneg _; (rw [Int.toNat_natCast]; exact hy)) | (apply op_call hlf; exact bsD) | (exact bsO)) | apply J.seq | apply E.next | apply J.lq | apply Lq.nil | apply PRun.nil | apply J.block | apply E.in_normal | apply J.skip | (apply Lq.store; rfl; rfl; exact bsP; exact bsS; rfl; rfl) | (apply PRun.al; rfl) | (apply Lq.al; rfl; rfl; intro b) | (apply Open.cons; intro b) | apply Open.nil | (apply Lq.pass; rfl; rfl; rfl) | (apply PRun.pass; rfl; rfl) | (apply Lq.skip; rfl; rfl; rfl; exact bsB) | (apply PRun.skip; rfl; rfl; exact bsB) | (apply J.drawN; exact mixed; kernel_rfl) | (apply J.cond_t; rfl) | (apply J.cond_f; rfl) | apply J.exit | apply E.then_exit | apply E.in_exit | (apply E.in_other; rfl))
    (refine J.ret ?_; (repeat (first | refine E.then_ret ?_ | refine E.in_ret ?_)))
    rw [all2B_f i x y hx hy ho]
    exact E.ret1 rfl rfl
  · rw [ho] at hlf
    repeat (first | ((first | (apply Lq.s; rfl) | apply PRun.s | (apply Lq.run; rfl; rfl; rfl; exact bsB) | (apply PRun.run; rfl; rfl; exact bsB)); first | (apply op_box stateT; rfl) | (apply op_faddr state_clock; rfl; decide) | (apply op_faddr state_streams; rfl; decide) | (apply op_load (intT .i64); rfl) | (apply op_load (slT streamT); rfl) | (apply op_load stateT; rfl) | (apply op_load streamT; rfl) | (apply op_len (xs := a.streams); rfl) | (apply op_len (xs := z.streams); rfl) | (apply op_iaddr streamT.toTy (x := y); rfl; rfl; exact Int.natCast_nonneg _; (rw [Int.toNat_natCast]; exact hy)) | (apply op_call hlf; exact bsD) | (exact bsO)) | apply J.seq | apply E.next | apply J.lq | apply Lq.nil | apply PRun.nil | apply J.block | apply E.in_normal | apply J.skip | (apply Lq.store; rfl; rfl; exact bsP; exact bsS; rfl; rfl) | (apply PRun.al; rfl) | (apply Lq.al; rfl; rfl; intro b) | (apply Open.cons; intro b) | apply Open.nil | (apply Lq.pass; rfl; rfl; rfl) | (apply PRun.pass; rfl; rfl) | (apply Lq.skip; rfl; rfl; rfl; exact bsB) | (apply PRun.skip; rfl; rfl; exact bsB) | (apply J.drawN; exact mixed; kernel_rfl) | (apply J.cond_t; rfl) | (apply J.cond_f; rfl) | apply J.exit | apply E.then_exit | apply E.in_exit | (apply E.in_other; rfl))
    refine E.again (i + 1) (by omega) ⟨by omega, fun j u v hj hu hv => ?_⟩ (Sub.same (by repeat' (first | exact trivial | refine ⟨rfl, ?_⟩)))
    rcases Nat.lt_or_eq_of_le (Nat.le_of_lt_succ hj) with h' | rfl
    · exact hp j u v h' hu hv
    · rw [hx] at hu; injection hu with hu; subst hu
      rw [hy] at hv; injection hv with hv; subst hv
      exact ho
set_option maxHeartbeats 1000000 in
theorem runs_fn (t : StateS) (b : Bool) (h8 : t.streams.length ≤ 8) (h64 : ∀ x ∈ t.streams, x.recs.length ≤ 64) : Fn Try.prog 39 [stateT.val t, is (.bool b)] (sl runT.toTy (runsM b t.streams)) := by
  have hrl := runs_le (b := b) h64
  refine Fn.mk' 36 Try.func39 rfl rfl rfl rfl fun w0 H0 => ?_
  repeat (first | ((first | (apply Lq.s; rfl) | apply PRun.s | (apply Lq.run; rfl; rfl; rfl; exact bsB) | (apply PRun.run; rfl; rfl; exact bsB)); first | (apply op_box stateT; rfl) | (apply op_faddr state_clock; rfl; decide) | (apply op_faddr state_streams; rfl; decide) | (apply op_load (intT .i64); rfl) | (apply op_load (slT streamT); rfl) | (apply op_load stateT; rfl) | (apply op_load streamT; rfl) | (apply op_len (xs := a.streams); rfl) | (apply op_len (xs := z.streams); rfl) | (apply op_len (xs := t.streams); rfl) | (exact bsO)) | apply J.seq | apply E.next | apply J.lq | apply Lq.nil | apply PRun.nil | apply J.block | apply E.in_normal | apply J.skip | (apply Lq.store; rfl; rfl; exact bsP; exact bsS; rfl; rfl) | (apply PRun.al; rfl) | (apply Lq.al; rfl; rfl; intro b) | (apply Open.cons; intro b) | apply Open.nil | (apply Lq.pass; rfl; rfl; rfl) | (apply PRun.pass; rfl; rfl) | (apply Lq.skip; rfl; rfl; rfl; exact bsB) | (apply PRun.skip; rfl; rfl; exact bsB) | (apply J.drawN; exact mixed; kernel_rfl) | (apply J.cond_t; rfl) | (apply J.cond_f; rfl) | apply J.exit | apply E.then_exit | apply E.in_exit | (apply E.in_other; rfl))
  refine J.nilrow 41 runT.toTy ?_
  refine J.loop (fun p : Nat × Option Addr × Nat => p.1 ≤ t.streams.length) (fun p => [(1, is (.bool b)), (11, sl streamT.toTy t.streams), (12, is (.int .i64 (t.streams.length : Int))), (13, is (.int .i64 (p.1 : Int))), (5, is (.slice p.2.1 (runsM b (t.streams.take p.1)).length p.2.2))]) (fun p => [row (.slice p.2.1 (runsM b (t.streams.take p.1)).length p.2.2) 41 runT.toTy (runsM b (t.streams.take p.1))]) (fun p => t.streams.length - p.1) (0, none, 0) (Nat.zero_le _) ?_ ?_
  · dsimp only
    rw [show runsM b (t.streams.take 0) = [] by rw [List.take_zero]; unfold runsM; rfl]
    exact ⟨(by repeat' (first | exact trivial | refine ⟨rfl, ?_⟩)), [], List.Perm.refl _⟩
  rintro ⟨i, A, c⟩ hi
  dsimp only at hi ⊢
  by_cases hlt : i < t.streams.length
  case neg =>
    obtain rfl : i = t.streams.length := by omega
    rw [List.take_length]
    repeat (first | ((first | (apply Lq.s; rfl) | apply PRun.s | (apply Lq.run; rfl; rfl; rfl; exact bsB) | (apply PRun.run; rfl; rfl; exact bsB)); first | (exact bsO)) | apply J.seq | apply E.next | apply J.lq | apply Lq.nil | apply PRun.nil | apply J.block | apply E.in_normal | apply J.skip | (apply Lq.store; rfl; rfl; exact bsP; exact bsS; rfl; rfl) | (apply PRun.al; rfl) | (apply Lq.al; rfl; rfl; intro b) | (apply Open.cons; intro b) | apply Open.nil | (apply Lq.pass; rfl; rfl; rfl) | (apply PRun.pass; rfl; rfl) | (apply Lq.skip; rfl; rfl; rfl; exact bsB) | (apply PRun.skip; rfl; rfl; exact bsB) | (apply J.drawN; exact mixed; kernel_rfl) | (apply J.cond_t; rfl) | (apply J.cond_f; rfl) | apply J.exit | apply E.then_exit | apply E.in_exit | (apply E.in_other; rfl))
    (refine J.ret ?_; (repeat (first | refine E.then_ret ?_ | refine E.in_ret ?_)))
    refine E.freeze 4 rfl (List.Perm.refl _) ?_
    exact E.ret1 rfl rfl
  obtain ⟨x, hx⟩ : ∃ x, t.streams[i]? = some x := ⟨_, List.getElem?_eq_getElem hlt⟩
  have hst := runs_step (b := b) hx
  have hx64 := h64 x (List.mem_of_getElem? hx)
  have hri := hrl i
  repeat (first | ((first | (apply Lq.s; rfl) | apply PRun.s | (apply Lq.run; rfl; rfl; rfl; exact bsB) | (apply PRun.run; rfl; rfl; exact bsB)); first | (exact bsO)) | apply J.seq | apply E.next | apply J.lq | apply Lq.nil | apply PRun.nil | apply J.block | apply E.in_normal | apply J.skip | (apply Lq.store; rfl; rfl; exact bsP; exact bsS; rfl; rfl) | (apply PRun.al; rfl) | (apply Lq.al; rfl; rfl; intro b) | (apply Open.cons; intro b) | apply Open.nil | (apply Lq.pass; rfl; rfl; rfl) | (apply PRun.pass; rfl; rfl) | (apply Lq.skip; rfl; rfl; rfl; exact bsB) | (apply PRun.skip; rfl; rfl; exact bsB) | (apply J.drawN; exact mixed; kernel_rfl) | (apply J.cond_t; rfl) | (apply J.cond_f; rfl) | apply J.exit | apply E.then_exit | apply E.in_exit | (apply E.in_other; rfl))
  (apply Lq.s; rfl; (apply op_iaddr streamT.toTy (x := x); rfl; rfl; exact Int.natCast_nonneg _; (rw [Int.toNat_natCast]; exact hx)))
  (apply Lq.s; rfl; (apply op_load streamT; rfl))
  (apply Lq.al; rfl; rfl; intro bb)
  (apply Lq.storeE (φs' := streamT.cells x); rfl; rfl; exact List.Perm.refl _; exact Seg.val _ _; rfl; exact Nat.le_refl 4; exact splice_all (by rw [streamT.len]; rfl))
  refine Lq.frzB 7 rfl (List.Perm.refl _) ?_
  repeat (first | ((first | (apply Lq.s; rfl) | apply PRun.s | (apply Lq.run; rfl; rfl; rfl; exact bsB) | (apply PRun.run; rfl; rfl; exact bsB)); first | (apply op_faddr stream_recs; rfl; decide) | (apply op_load (slT recT); rfl) | (apply op_len (xs := x.recs); rfl) | (exact bsO)) | apply J.seq | apply E.next | apply J.lq | apply Lq.nil | apply PRun.nil | apply J.block | apply E.in_normal | apply J.skip | (apply Lq.store; rfl; rfl; exact bsP; exact bsS; rfl; rfl) | (apply PRun.al; rfl) | (apply Lq.al; rfl; rfl; intro b) | (apply Open.cons; intro b) | apply Open.nil | (apply Lq.pass; rfl; rfl; rfl) | (apply PRun.pass; rfl; rfl) | (apply Lq.skip; rfl; rfl; rfl; exact bsB) | (apply PRun.skip; rfl; rfl; exact bsB) | (apply J.drawN; exact mixed; kernel_rfl) | (apply J.cond_t; rfl) | (apply J.cond_f; rfl) | apply J.exit | apply E.then_exit | apply E.in_exit | (apply E.in_other; rfl))
  refine J.loop (fun p : Nat × Option Addr × Nat => p.1 ≤ x.recs.length) (fun p => [(1, is (.bool b)), (11, sl streamT.toTy t.streams), (12, is (.int .i64 (t.streams.length : Int))), (13, is (.int .i64 (i : Int))), (18, sl recT.toTy x.recs), (19, is (.int .i64 (x.recs.length : Int))), (20, is (.int .i64 (p.1 : Int))), (5, is (.slice p.2.1 (runsM b (t.streams.take i) ++ rr b (x.recs.take p.1)).length p.2.2))]) (fun p => [row (.slice p.2.1 (runsM b (t.streams.take i) ++ rr b (x.recs.take p.1)).length p.2.2) 41 runT.toTy (runsM b (t.streams.take i) ++ rr b (x.recs.take p.1))]) (fun p => x.recs.length - p.1) (0, A, c) (Nat.zero_le _) ?_ ?_
  · dsimp only
    rw [show rr b (x.recs.take 0) = [] by rw [List.take_zero]; unfold rr; rfl, List.append_nil]
    exact ⟨(by repeat' (first | exact trivial | refine ⟨rfl, ?_⟩)), [], List.Perm.refl _⟩
  rintro ⟨k, A1, c1⟩ hk
  dsimp only at hk ⊢
  by_cases hkl : k < x.recs.length
  case neg =>
    obtain rfl : k = x.recs.length := by omega
    rw [List.take_length, ← hst]
    repeat (first | ((first | (apply Lq.s; rfl) | apply PRun.s | (apply Lq.run; rfl; rfl; rfl; exact bsB) | (apply PRun.run; rfl; rfl; exact bsB)); first | (apply op_add (c := ((i + 1 : Nat) : Int)); rfl; rfl; (rw [show (i : Int) + 1 = ((i + 1 : Nat) : Int) by omega]; apply wrapi <;> omega)) | (exact bsO)) | apply J.seq | apply E.next | apply J.lq | apply Lq.nil | apply PRun.nil | apply J.block | apply E.in_normal | apply J.skip | (apply Lq.store; rfl; rfl; exact bsP; exact bsS; rfl; rfl) | (apply PRun.al; rfl) | (apply Lq.al; rfl; rfl; intro b) | (apply Open.cons; intro b) | apply Open.nil | (apply Lq.pass; rfl; rfl; rfl) | (apply PRun.pass; rfl; rfl) | (apply Lq.skip; rfl; rfl; rfl; exact bsB) | (apply PRun.skip; rfl; rfl; exact bsB) | (apply J.drawN; exact mixed; kernel_rfl) | (apply J.cond_t; rfl) | (apply J.cond_f; rfl) | apply J.exit | apply E.then_exit | apply E.in_exit | (apply E.in_other; rfl))
    exact E.again (i + 1, A1, c1) (by dsimp only; omega) (by dsimp only; omega) ⟨(by repeat' (first | exact trivial | refine ⟨rfl, ?_⟩)), [], List.Perm.refl _⟩
  obtain ⟨r, hr⟩ : ∃ r, x.recs[k]? = some r := ⟨_, List.getElem?_eq_getElem hkl⟩
  have hrs := rr_step (b := b) hr
  have hrle := rr_le b (x.recs.take k)
  rw [List.length_take] at hrle
  repeat (first | ((first | (apply Lq.s; rfl) | apply PRun.s | (apply Lq.run; rfl; rfl; rfl; exact bsB) | (apply PRun.run; rfl; rfl; exact bsB)); first | (exact bsO)) | apply J.seq | apply E.next | apply J.lq | apply Lq.nil | apply PRun.nil | apply J.block | apply E.in_normal | apply J.skip | (apply Lq.store; rfl; rfl; exact bsP; exact bsS; rfl; rfl) | (apply PRun.al; rfl) | (apply Lq.al; rfl; rfl; intro b) | (apply Open.cons; intro b) | apply Open.nil | (apply Lq.pass; rfl; rfl; rfl) | (apply PRun.pass; rfl; rfl) | (apply Lq.skip; rfl; rfl; rfl; exact bsB) | (apply PRun.skip; rfl; rfl; exact bsB) | (apply J.drawN; exact mixed; kernel_rfl) | (apply J.cond_t; rfl) | (apply J.cond_f; rfl) | apply J.exit | apply E.then_exit | apply E.in_exit | (apply E.in_other; rfl))
  (apply Lq.s; rfl; (apply op_iaddr recT.toTy (x := r); rfl; rfl; exact Int.natCast_nonneg _; (rw [Int.toNat_natCast]; exact hr)))
  (apply Lq.s; rfl; (apply op_load recT; rfl))
  (apply Lq.al; rfl; rfl; intro bb)
  (apply Lq.storeE (φs' := recT.cells r); rfl; rfl; exact List.Perm.refl _; exact Seg.val _ _; exact recT.len _; exact Nat.le_refl 37; exact splice_all (by rw [recT.len]; rfl))
  refine Lq.frzB 9 rfl (List.Perm.refl _) ?_
  repeat (first | ((first | (apply Lq.s; rfl) | apply PRun.s | (apply Lq.run; rfl; rfl; rfl; exact bsB) | (apply PRun.run; rfl; rfl; exact bsB)); first | (apply op_faddr rec_shredded; rfl; decide) | (apply op_load boolT; rfl) | (exact bsO)) | apply J.seq | apply E.next | apply J.lq | apply Lq.nil | apply PRun.nil | apply J.block | apply E.in_normal | apply J.skip | (apply Lq.store; rfl; rfl; exact bsP; exact bsS; rfl; rfl) | (apply PRun.al; rfl) | (apply Lq.al; rfl; rfl; intro b) | (apply Open.cons; intro b) | apply Open.nil | (apply Lq.pass; rfl; rfl; rfl) | (apply PRun.pass; rfl; rfl) | (apply Lq.skip; rfl; rfl; rfl; exact bsB) | (apply PRun.skip; rfl; rfl; exact bsB) | (apply J.drawN; exact mixed; kernel_rfl) | (apply J.cond_t; rfl) | (apply J.cond_f; rfl) | apply J.exit | apply E.then_exit | apply E.in_exit | (apply E.in_other; rfl))
  by_cases hsb : r.shredded = b
  · rw [if_pos hsb] at hrs
    rw [show (r.shredded == b) = true by rw [hsb]; cases b <;> rfl]
    repeat (first | ((first | (apply Lq.s; rfl) | apply PRun.s | (apply Lq.run; rfl; rfl; rfl; exact bsB) | (apply PRun.run; rfl; rfl; exact bsB)); first | (apply op_faddr rec_run; rfl; decide) | (apply op_load runT; rfl) | (apply op_bslice runT (xs := [r.run]); (repeat (first | exact PO.nil _ | (apply PO.cons; rfl))); rfl; rfl; rfl) | (exact bsO)) | apply J.seq | apply E.next | apply J.lq | apply Lq.nil | apply PRun.nil | apply J.block | apply E.in_normal | apply J.skip | (apply Lq.store; rfl; rfl; exact bsP; exact bsS; rfl; rfl) | (apply PRun.al; rfl) | (apply Lq.al; rfl; rfl; intro b) | (apply Open.cons; intro b) | apply Open.nil | (apply Lq.pass; rfl; rfl; rfl) | (apply PRun.pass; rfl; rfl) | (apply Lq.skip; rfl; rfl; rfl; exact bsB) | (apply PRun.skip; rfl; rfl; exact bsB) | (apply J.drawN; exact mixed; kernel_rfl) | (apply J.cond_t; rfl) | (apply J.cond_f; rfl) | apply J.exit | apply E.then_exit | apply E.in_exit | (apply E.in_other; rfl))
    (apply Lq.append (T := runT) (xs := runsM b (t.streams.take i) ++ rr b (x.recs.take k)) (ys := [r.run]); rfl; exact List.Perm.refl _; (apply From.sl; rfl); rfl; rfl; rfl; (rw [List.length_append]; show _ + _ + 1 ≤ maxLen; unfold maxLen; omega); (rw [List.length_append]; show (_ + _ + 1) * 16 ≤ _; omega))
    intro A2 c2
    rw [List.append_assoc, ← hrs]
    repeat (first | ((first | (apply Lq.s; rfl) | apply PRun.s | (apply Lq.run; rfl; rfl; rfl; exact bsB) | (apply PRun.run; rfl; rfl; exact bsB)); first | (apply op_add (c := ((k + 1 : Nat) : Int)); rfl; rfl; (rw [show (k : Int) + 1 = ((k + 1 : Nat) : Int) by omega]; apply wrapi <;> omega)) | (exact bsO)) | apply J.seq | apply E.next | apply J.lq | apply Lq.nil | apply PRun.nil | apply J.block | apply E.in_normal | apply J.skip | (apply Lq.store; rfl; rfl; exact bsP; exact bsS; rfl; rfl) | (apply PRun.al; rfl) | (apply Lq.al; rfl; rfl; intro b) | (apply Open.cons; intro b) | apply Open.nil | (apply Lq.pass; rfl; rfl; rfl) | (apply PRun.pass; rfl; rfl) | (apply Lq.skip; rfl; rfl; rfl; exact bsB) | (apply PRun.skip; rfl; rfl; exact bsB) | (apply J.drawN; exact mixed; kernel_rfl) | (apply J.cond_t; rfl) | (apply J.cond_f; rfl) | apply J.exit | apply E.then_exit | apply E.in_exit | (apply E.in_other; rfl))
    exact E.again (k + 1, A2, c2) (by dsimp only; omega) (by dsimp only; omega) ⟨(by repeat' (first | exact trivial | refine ⟨rfl, ?_⟩)), [], List.Perm.refl _⟩
  · rw [if_neg hsb] at hrs
    rw [show (r.shredded == b) = false from beq_eq_false_iff_ne.2 hsb, ← hrs]
    repeat (first | ((first | (apply Lq.s; rfl) | apply PRun.s | (apply Lq.run; rfl; rfl; rfl; exact bsB) | (apply PRun.run; rfl; rfl; exact bsB)); first | (apply op_add (c := ((k + 1 : Nat) : Int)); rfl; rfl; (rw [show (k : Int) + 1 = ((k + 1 : Nat) : Int) by omega]; apply wrapi <;> omega)) | (exact bsO)) | apply J.seq | apply E.next | apply J.lq | apply Lq.nil | apply PRun.nil | apply J.block | apply E.in_normal | apply J.skip | (apply Lq.store; rfl; rfl; exact bsP; exact bsS; rfl; rfl) | (apply PRun.al; rfl) | (apply Lq.al; rfl; rfl; intro b) | (apply Open.cons; intro b) | apply Open.nil | (apply Lq.pass; rfl; rfl; rfl) | (apply PRun.pass; rfl; rfl) | (apply Lq.skip; rfl; rfl; rfl; exact bsB) | (apply PRun.skip; rfl; rfl; exact bsB) | (apply J.drawN; exact mixed; kernel_rfl) | (apply J.cond_t; rfl) | (apply J.cond_f; rfl) | apply J.exit | apply E.then_exit | apply E.in_exit | (apply E.in_other; rfl))
    exact E.again (k + 1, A1, c1) (by dsimp only; omega) (by dsimp only; omega) ⟨(by repeat' (first | exact trivial | refine ⟨rfl, ?_⟩)), [], List.Perm.refl _⟩
theorem live17_fn (t : StateS) (h8 : t.streams.length ≤ 8) (h64 : ∀ x ∈ t.streams, x.recs.length ≤ 64) : Fn Try.prog 25 [stateT.val t] (sl runT.toTy (runsM false t.streams)) := by
  have hf := runs_fn t false h8 h64
  refine Fn.mk' 5 Try.func25 rfl rfl rfl rfl fun w0 H0 => ?_
  repeat (first | ((first | (apply Lq.s; rfl) | apply PRun.s | (apply Lq.run; rfl; rfl; rfl; exact bsB) | (apply PRun.run; rfl; rfl; exact bsB)); first | (apply op_box stateT; rfl) | (apply op_faddr state_clock; rfl; decide) | (apply op_faddr state_streams; rfl; decide) | (apply op_load (intT .i64); rfl) | (apply op_load (slT streamT); rfl) | (apply op_load stateT; rfl) | (apply op_load streamT; rfl) | (apply op_len (xs := t.streams); rfl) | (apply op_call hf; exact bsD) | (exact bsO)) | apply J.seq | apply E.next | apply J.lq | apply Lq.nil | apply PRun.nil | apply J.block | apply E.in_normal | apply J.skip | (apply Lq.store; rfl; rfl; exact bsP; exact bsS; rfl; rfl) | (apply PRun.al; rfl) | (apply Lq.al; rfl; rfl; intro b) | (apply Open.cons; intro b) | apply Open.nil | (apply Lq.pass; rfl; rfl; rfl) | (apply PRun.pass; rfl; rfl) | (apply Lq.skip; rfl; rfl; rfl; exact bsB) | (apply PRun.skip; rfl; rfl; exact bsB) | (apply J.drawN; exact mixed; kernel_rfl) | (apply J.cond_t; rfl) | (apply J.cond_f; rfl) | apply J.exit | apply E.then_exit | apply E.in_exit | (apply E.in_other; rfl))
  (refine J.ret ?_; (repeat (first | refine E.then_ret ?_ | refine E.in_ret ?_)))
  exact E.ret1 rfl rfl
theorem shredded17_fn (t : StateS) (h8 : t.streams.length ≤ 8) (h64 : ∀ x ∈ t.streams, x.recs.length ≤ 64) : Fn Try.prog 26 [stateT.val t] (sl runT.toTy (runsM true t.streams)) := by
  have hf := runs_fn t true h8 h64
  refine Fn.mk' 5 Try.func26 rfl rfl rfl rfl fun w0 H0 => ?_
  repeat (first | ((first | (apply Lq.s; rfl) | apply PRun.s | (apply Lq.run; rfl; rfl; rfl; exact bsB) | (apply PRun.run; rfl; rfl; exact bsB)); first | (apply op_box stateT; rfl) | (apply op_faddr state_clock; rfl; decide) | (apply op_faddr state_streams; rfl; decide) | (apply op_load (intT .i64); rfl) | (apply op_load (slT streamT); rfl) | (apply op_load stateT; rfl) | (apply op_load streamT; rfl) | (apply op_len (xs := t.streams); rfl) | (apply op_call hf; exact bsD) | (exact bsO)) | apply J.seq | apply E.next | apply J.lq | apply Lq.nil | apply PRun.nil | apply J.block | apply E.in_normal | apply J.skip | (apply Lq.store; rfl; rfl; exact bsP; exact bsS; rfl; rfl) | (apply PRun.al; rfl) | (apply Lq.al; rfl; rfl; intro b) | (apply Open.cons; intro b) | apply Open.nil | (apply Lq.pass; rfl; rfl; rfl) | (apply PRun.pass; rfl; rfl) | (apply Lq.skip; rfl; rfl; rfl; exact bsB) | (apply PRun.skip; rfl; rfl; exact bsB) | (apply J.drawN; exact mixed; kernel_rfl) | (apply J.cond_t; rfl) | (apply J.cond_f; rfl) | apply J.exit | apply E.then_exit | apply E.in_exit | (apply E.in_other; rfl))
  (refine J.ret ?_; (repeat (first | refine E.then_ret ?_ | refine E.in_ret ?_)))
  exact E.ret1 rfl rfl
end Go.Proofs.Ytbemcehcipkliaa.L
