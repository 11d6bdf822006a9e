/-
  What a model's steps keep, and what grows (plain).
-/
import Derived.Test.YtljbbajelkkafaaDoorMa
namespace Go.Proofs.YtljbbajelkkafaaDoor.L
open Go
set_option linter.unusedSectionVars false
variable [Globs] [Has_sha_table] [Has_sha_begin]
set_option linter.unusedVariables false
theorem remM_asc' {l : List Str} {x : Str} (h : adj slt l = true) : adj slt (remM l x) = true := remM_asc h
theorem shredR_len (l : List MRec) (i : Nat) : (shredR l i).length = l.length := by unfold shredR; split <;> simp
theorem shredR_at {l : List MRec} {i k : Nat} {r : MRec} (h : l[k]? = some r) : (shredR l i)[k]? = some (if i = k then { r with shred := true, text := [] } else r) := by
  unfold shredR
  split
  · rename_i q hq
    rw [List.getElem?_set]
    split
    · rename_i e
      subst e
      rw [hq] at h; injection h with h; subst h
      rw [if_pos (List.getElem?_eq_some_iff.1 hq).1]
    · exact h
  · rename_i hq
    split
    · rename_i e
      subst e
      rw [hq] at h; cases h
    · exact h
theorem res_ok {s : MStr} {clock : Int} {x : StepS} (h : StrOk s) (he : errS s clock x = 0) : StrOk (resS s clock x) := by
  obtain ⟨h1, h2, h3, h4⟩ := h
  unfold errS at he
  unfold resS
  by_cases k5 : x.kind = 5
  · rw [if_pos k5] at he ⊢
    have hn : ¬ (300 < x.text.length ∨ s.recs.length = 64) := fun h => by rw [if_pos h] at he; cases he
    refine ⟨by show (s.recs ++ [_]).length ≤ 64; rw [List.length_append]; show s.recs.length + 1 ≤ 64; omega, h2, h3, fun r hr => ?_⟩
    rcases List.mem_append.1 hr with hr | hr
    · exact h4 r hr
    · rw [List.mem_singleton] at hr; subst hr; show x.text.length ≤ 300; omega
  rw [if_neg k5] at he ⊢
  by_cases k7 : x.kind = 7
  · rw [if_pos k7] at he ⊢
    exact ⟨h1, h2, h3, h4⟩
  rw [if_neg k7] at he ⊢
  by_cases k8 : x.kind = 8
  · rw [if_pos k8] at he ⊢
    cases hn : nameOk x.text with
    | false => rw [hn] at he; cases he
    | true =>
      rw [hn, if_pos rfl] at he
      by_cases hx : x.text ∈ s.holds
      · rw [if_pos hx] at he; cases he
      rw [if_neg hx] at he
      have hl : ¬ s.holds.length = 4 := fun h => by rw [if_pos h] at he; cases he
      exact ⟨h1, by show (addM _ _).length ≤ 4; rw [addM_len]; omega, addM_asc h3 hx, h4⟩
  rw [if_neg k8] at he ⊢
  by_cases k9 : x.kind = 9
  · rw [if_pos k9] at he ⊢
    exact ⟨h1, by show (remM _ _).length ≤ 4; have := remM_len s.holds x.text; omega, remM_asc h3, h4⟩
  rw [if_neg k9] at he ⊢
  refine ⟨by show (shredR _ _).length ≤ 64; rw [shredR_len]; exact h1, h2, h3, fun r hr => ?_⟩
  obtain ⟨k, hk, hkr⟩ := List.mem_iff_getElem.1 hr
  have hk2 : k < s.recs.length := by rw [← shredR_len s.recs x.n.toNat]; exact hk
  have := shredR_at (i := x.n.toNat) (List.getElem?_eq_getElem hk2)
  rw [List.getElem?_eq_getElem hk, hkr] at this
  injection this with this
  rw [this]
  split
  · exact Nat.zero_le _
  · exact h4 _ (List.getElem_mem hk2)
theorem set_ok {l : List MStr} {i : Nat} {s : MStr} (h : ∀ x ∈ l, StrOk x) (hs : StrOk s) : ∀ x ∈ l.set i s, StrOk x := fun x hx => by
  rcases List.mem_or_eq_of_mem_set hx with h1 | h1
  · exact h x h1
  · subst h1; exact hs
theorem findS_mem {m : MM} {x : Str} (h : hasN m.cur.streams x = true) : findS m x ∈ m.cur.streams ∧ m.cur.streams[findN m.cur.streams x]? = some (findS m x) ∧ (findS m x).name = x := by
  rcases find_cases m.cur.streams x with ⟨h1, _⟩ | ⟨s, h1, h2, h3, h4⟩
  · rw [h1] at h; cases h
  · rw [findS_of h2]; exact ⟨List.mem_of_getElem? h2, h2, h3⟩
theorem find_ok0 {m : MM} {x : Str} (h : errFind m x = 0) : m.mnt = true ∧ hasN m.cur.streams x = true := by
  unfold errFind at h
  cases h1 : m.mnt with
  | false => rw [h1] at h; cases h
  | true =>
    cases h2 : hasN m.cur.streams x with
    | false => rw [h1, h2] at h; cases h
    | true => exact ⟨rfl, rfl⟩
theorem done_ok {t : Nat} {full : Bool} (h : errDone t full = 0) : t < 200 ∧ full = false := by
  unfold errDone at h
  by_cases h1 : 200 ≤ t
  · rw [if_pos h1] at h; cases h
  · rw [if_neg h1] at h
    cases full with
    | true => cases h
    | false => exact ⟨by omega, rfl⟩
/-- A step's result: one of these. -/
theorem do_cases (m : MM) (x : StepS) (full : Bool) :
    ((doM m x full).1 = m ∧ (doM m x full).2.2 ≠ 0 ∧ (doM m x full).2.1 = 0)
    ∨ ((x.kind = 1 ∨ x.kind = 2 ∨ x.kind = 3) ∧ errTurn m x.kind full = 0 ∧ doM m x full = (⟨m.fmt || decide (x.kind = 1), decide (x.kind = 2), m.sure, m.sure, 0⟩, 0, 0))
    ∨ (x.kind = 4 ∧ errCreate m x.name = 0 ∧ m.todo < 200 ∧ doM m x full = ({ m with cur := ⟨m.cur.clock, m.cur.streams ++ [⟨x.name, 0, [], []⟩]⟩, todo := m.todo + 1 }, 0, 0))
    ∨ (x.kind = 6 ∧ m.mnt = true ∧ m.todo = 0 ∧ m.cur.clock = m.sure.clock ∧ doM m x full = (m, 0, 0))
    ∨ (x.kind = 6 ∧ m.mnt = true ∧ doM m x full = (sealM m, 0, 0))
    ∨ (x.kind = 11 ∧ m.mnt = true ∧ (tickM m.cur.clock x.n).2 = 0 ∧ doM m x full = ({ m with cur := ⟨(tickM m.cur.clock x.n).1, m.cur.streams⟩ }, 0, 0))
    ∨ ((x.kind = 5 ∨ x.kind = 7 ∨ x.kind = 8 ∨ x.kind = 9 ∨ x.kind = 10) ∧ m.mnt = true ∧ hasN m.cur.streams x.name = true ∧ errS (findS m x.name) m.cur.clock x = 0 ∧ m.todo < 200 ∧ doM m x full = (resOf m x, (if x.kind = 5 then ((findS m x.name).recs.length : Int) else 0), 0)) := by
  unfold doM
  by_cases k1 : x.kind = 1 ∨ x.kind = 2 ∨ x.kind = 3
  · rw [if_pos k1]
    unfold turnM flat0
    by_cases h : errTurn m x.kind full = 0
    · rw [if_pos h]; exact .inr (.inl ⟨k1, h, rfl⟩)
    · rw [if_neg h]; exact .inl ⟨rfl, h, rfl⟩
  rw [if_neg k1]
  by_cases k4 : x.kind = 4
  · rw [if_pos k4]
    unfold createMM flat0
    by_cases h : errCreate m x.name = 0
    · rw [if_pos h]
      by_cases h2 : errDone m.todo full = 0
      · rw [if_pos h2]; exact .inr (.inr (.inl ⟨k4, h, (done_ok h2).1, rfl⟩))
      · rw [if_neg h2]; exact .inl ⟨rfl, h2, rfl⟩
    · rw [if_neg h]; exact .inl ⟨rfl, h, rfl⟩
  rw [if_neg k4]
  by_cases k6 : x.kind = 6
  · rw [if_pos k6]
    unfold syncM flat0
    cases hm : m.mnt with
    | false => exact .inl ⟨rfl, (show (240 : Int) ≠ 0 by decide), rfl⟩
    | true =>
      rw [if_pos rfl]
      by_cases h : m.todo = 0 ∧ m.cur.clock = m.sure.clock
      · rw [if_pos h]; exact .inr (.inr (.inr (.inl ⟨k6, rfl, h.1, h.2, rfl⟩)))
      · rw [if_neg h]
        cases full with
        | true => exact .inl ⟨rfl, (show (241 : Int) ≠ 0 by decide), rfl⟩
        | false => exact .inr (.inr (.inr (.inr (.inl ⟨k6, rfl, rfl⟩))))
  rw [if_neg k6]
  by_cases k11 : x.kind = 11
  · rw [if_pos k11]
    unfold tickMM flat0
    cases hm : m.mnt with
    | false => exact .inl ⟨rfl, (show (240 : Int) ≠ 0 by decide), rfl⟩
    | true =>
      rw [if_pos rfl]
      by_cases h : (tickM m.cur.clock x.n).2 = 0
      · rw [if_pos h]; exact .inr (.inr (.inr (.inr (.inr (.inl ⟨k11, rfl, h, by rfl⟩)))))
      · rw [if_neg h]; exact .inl ⟨rfl, h, rfl⟩
  rw [if_neg k11]
  by_cases kk : x.kind = 5 ∨ x.kind = 7 ∨ x.kind = 8 ∨ x.kind = 9 ∨ x.kind = 10
  · rw [if_pos kk]
    unfold ofM
    by_cases h : errFind m x.name = 0
    · rw [if_pos h]
      by_cases h2 : errS (findS m x.name) m.cur.clock x = 0
      · rw [if_pos h2]
        by_cases h3 : errDone m.todo full = 0
        · rw [if_pos h3]; exact .inr (.inr (.inr (.inr (.inr (.inr ⟨kk, (find_ok0 h).1, (find_ok0 h).2, h2, (done_ok h3).1, rfl⟩)))))
        · rw [if_neg h3]; exact .inl ⟨rfl, h3, rfl⟩
      · rw [if_neg h2]; exact .inl ⟨rfl, h2, rfl⟩
    · rw [if_neg h]; exact .inl ⟨rfl, h, rfl⟩
  · rw [if_neg kk]; exact .inl ⟨rfl, (show (2 : Int) ≠ 0 by decide), rfl⟩
theorem create_ok {m : MM} {x : Str} (h : errCreate m x = 0) : m.mnt = true ∧ m.cur.streams.length ≠ 8 := by
  unfold errCreate at h
  cases h1 : m.mnt with
  | false => rw [h1] at h; cases h
  | true =>
    rw [h1, if_pos rfl] at h
    cases h2 : nameOk x with
    | false => rw [h2] at h; cases h
    | true =>
      rw [h2, if_pos rfl] at h
      cases h3 : hasN m.cur.streams x with
      | true => rw [h3] at h; cases h
      | false =>
        rw [h3] at h
        exact ⟨rfl, fun h4 => by rw [if_neg (by simp), if_pos h4] at h; cases h⟩
theorem put_ok {m : MM} (h : MOk m) {x : StepS} (hh : hasN m.cur.streams x.name = true) (he : errS (findS m x.name) m.cur.clock x = 0) : StOk (putM m (findN m.cur.streams x.name) (resS (findS m x.name) m.cur.clock x)).cur := by
  obtain ⟨h1, h2⟩ := h.cur
  refine ⟨?_, set_ok h2 (res_ok (h2 _ (findS_mem hh).1) he)⟩
  show (List.set _ _ _).length ≤ 8
  rw [List.length_set]; exact h1
theorem do_ok {m : MM} (h : MOk m) (x : StepS) (full : Bool) : MOk (doM m x full).1 := by
  rcases do_cases m x full with ⟨e, _⟩ | ⟨_, _, e⟩ | ⟨_, hc, ht, e⟩ | ⟨_, _, _, _, e⟩ | ⟨_, _, e⟩ | ⟨_, _, _, e⟩ | ⟨_, _, hh, he, ht, e⟩ <;> rw [e]
  · exact h
  · exact ⟨h.sure, h.sure, Nat.zero_le _⟩
  · obtain ⟨h1, h2⟩ := h.cur
    have := create_ok hc
    refine ⟨h.sure, ⟨by show (_ ++ [_]).length ≤ 8; rw [List.length_append]; show m.cur.streams.length + 1 ≤ 8; omega, fun s hs => ?_⟩, by show m.todo + 1 ≤ 200; omega⟩
    rcases List.mem_append.1 hs with hs | hs
    · exact h2 s hs
    · rw [List.mem_singleton] at hs; subst hs; exact ⟨Nat.zero_le _, Nat.zero_le _, rfl, fun r hr => by cases hr⟩
  · exact h
  · exact ⟨h.cur, h.cur, Nat.zero_le _⟩
  · exact ⟨h.sure, h.cur, h.todo⟩
  · have hp := put_ok h hh he
    unfold resOf
    split
    · exact ⟨hp, hp, Nat.zero_le _⟩
    · exact ⟨h.sure, hp, by show m.todo + 1 ≤ 200; omega⟩
/-! ### What grows -/
def growR (p q : MRec) : Prop := p.time = q.time ∧ (p.shred = true → q.shred = true) ∧ (q.shred = false → p.text = q.text)
def growS (a b : MStr) : Prop := a.name = b.name ∧ a.retain ≤ b.retain ∧ ∀ (k : Nat) (p : MRec), a.recs[k]? = some p → ∃ q, b.recs[k]? = some q ∧ growR p q
def growT (a b : MSt) : Prop := a.clock ≤ b.clock ∧ ∀ (i : Nat) (x : MStr), a.streams[i]? = some x → ∃ y, b.streams[i]? = some y ∧ growS x y
theorem growS_refl (s : MStr) : growS s s := ⟨rfl, Int.le_refl _, fun k p h => ⟨p, h, rfl, id, fun _ => rfl⟩⟩
theorem growT_refl (t : MSt) : growT t t := ⟨Int.le_refl _, fun i x h => ⟨x, h, growS_refl x⟩⟩
theorem growS_trans {a b c : MStr} (h : growS a b) (k : growS b c) : growS a c := by
  refine ⟨h.1.trans k.1, Int.le_trans h.2.1 k.2.1, fun j p hp => ?_⟩
  obtain ⟨q, hq, h1, h2, h3⟩ := h.2.2 j p hp
  obtain ⟨r, hr, k1, k2, k3⟩ := k.2.2 j q hq
  refine ⟨r, hr, h1.trans k1, fun h => k2 (h2 h), fun h => ?_⟩
  cases hs : q.shred with
  | true => rw [k2 hs] at h; cases h
  | false => exact (h3 hs).trans (k3 h)
theorem growT_trans {a b c : MSt} (h : growT a b) (k : growT b c) : growT a c := by
  refine ⟨Int.le_trans h.1 k.1, fun i x hx => ?_⟩
  obtain ⟨y, hy, h1⟩ := h.2 i x hx
  obtain ⟨z, hz, k1⟩ := k.2 i y hy
  exact ⟨z, hz, growS_trans h1 k1⟩
theorem longer_ok {o n : Int} (h : longerM o n = 0) : o ≤ n := by
  unfold longerM at h
  split at h
  · split at h
    · cases h
    · omega
  · cases h
theorem tick_ok {c n : Int} (h : (tickM c n).2 = 0) : c ≤ (tickM c n).1 ∧ 0 ≤ c := by
  unfold tickM at h ⊢
  split
  · rename_i h1
    rw [if_pos h1] at h
    rw [Bool.and_eq_true] at h1
    have a1 := timeB_iff h1.1
    have a2 := timeB_iff h1.2
    split
    · rename_i h2; exact ⟨by show c ≤ c + n; omega, a1.1⟩
    · rename_i h2; rw [if_neg h2] at h; cases h
  · rename_i h1; rw [if_neg h1] at h; cases h
theorem res_grow {s : MStr} {clock : Int} {x : StepS} (he : errS s clock x = 0) : growS s (resS s clock x) := by
  unfold errS at he
  unfold resS
  by_cases k5 : x.kind = 5
  · rw [if_pos k5]
    exact ⟨rfl, Int.le_refl _, fun k p h => ⟨p, by show (_ ++ _)[k]? = _; rw [List.getElem?_append_left (List.getElem?_eq_some_iff.1 h).1]; exact h, rfl, id, fun _ => rfl⟩⟩
  rw [if_neg k5] at he ⊢
  by_cases k7 : x.kind = 7
  · rw [if_pos k7] at he ⊢
    exact ⟨rfl, longer_ok he, fun k p h => ⟨p, h, rfl, id, fun _ => rfl⟩⟩
  rw [if_neg k7] at he ⊢
  by_cases k8 : x.kind = 8
  · rw [if_pos k8]; exact ⟨rfl, Int.le_refl _, fun k p h => ⟨p, h, rfl, id, fun _ => rfl⟩⟩
  rw [if_neg k8] at he ⊢
  by_cases k9 : x.kind = 9
  · rw [if_pos k9]; exact ⟨rfl, Int.le_refl _, fun k p h => ⟨p, h, rfl, id, fun _ => rfl⟩⟩
  rw [if_neg k9]
  refine ⟨rfl, Int.le_refl _, fun k p h => ⟨_, shredR_at h, ?_⟩⟩
  split
  · exact ⟨rfl, fun _ => rfl, fun h => by cases h⟩
  · exact ⟨rfl, id, fun _ => rfl⟩
theorem set_grow {t : MSt} {i : Nat} {s s' : MStr} (h : t.streams[i]? = some s) (hg : growS s s') : growT t ⟨t.clock, t.streams.set i s'⟩ := by
  refine ⟨Int.le_refl _, fun j x hx => ?_⟩
  have hlt := (List.getElem?_eq_some_iff.1 hx).1
  show ∃ y, (t.streams.set i s')[j]? = some y ∧ _
  rw [List.getElem?_set]
  by_cases e : i = j
  · subst e
    rw [if_pos rfl, if_pos hlt]
    rw [h] at hx; injection hx with hx; subst hx
    exact ⟨s', rfl, hg⟩
  · rw [if_neg e]; exact ⟨x, hx, growS_refl x⟩
/-- What a model keeps: what is there has grown out of what is sealed. -/
structure MGr (m : MM) : Prop where
  fm : m.mnt = true → m.fmt = true
  un : m.fmt = false → m.sure = emptyS
  gr : m.mnt = true → growT m.sure m.cur
  z : m.mnt = true → m.todo = 0 → m.cur.streams = m.sure.streams
  c0 : 0 ≤ m.sure.clock
theorem new_gr : MGr newMM := ⟨fun h => (by cases h), fun _ => rfl, fun h => (by cases h), fun h => (by cases h), Int.le_refl _⟩
theorem turn_fmt {m : MM} {full : Bool} (h : errTurn m 2 full = 0) : m.fmt = true := by
  unfold errTurn at h
  split at h
  · rw [if_neg (by decide), if_pos rfl] at h
    cases hf : m.fmt with
    | false => rw [hf] at h; cases h
    | true => rfl
  · cases h
theorem do_gr {m : MM} (h : MGr m) (x : StepS) (full : Bool) : MGr (doM m x full).1 := by
  rcases do_cases m x full with ⟨e, _⟩ | ⟨kk, ht, e⟩ | ⟨_, hc, ht, e⟩ | ⟨_, _, _, _, e⟩ | ⟨_, hm, e⟩ | ⟨_, hm, ht, e⟩ | ⟨_, hm, hh, he, ht, e⟩ <;> rw [e]
  · exact h
  · refine ⟨fun hk => ?_, fun hk => ?_, fun _ => growT_refl _, fun _ _ => rfl, h.c0⟩
    · have k2 : x.kind = 2 := of_decide_eq_true hk
      rw [k2] at ht
      show (m.fmt || _) = true
      rw [turn_fmt ht]; rfl
    · have : (m.fmt || decide (x.kind = 1)) = false := hk
      rw [Bool.or_eq_false_iff] at this
      exact h.un this.1
  · have hm := (create_ok hc).1
    refine ⟨h.fm, h.un, fun _ => growT_trans (h.gr hm) ⟨Int.le_refl _, fun i y hy => ⟨y, ?_, growS_refl y⟩⟩, fun _ hz => (by cases hz), h.c0⟩
    show (_ ++ _)[i]? = _
    rw [List.getElem?_append_left (List.getElem?_eq_some_iff.1 hy).1]; exact hy
  · exact h
  · exact ⟨h.fm, fun hf => (by have := h.fm hm; have hf : m.fmt = false := hf; rw [hf] at this; cases this), fun _ => growT_refl _, fun _ _ => rfl, by have := (h.gr hm).1; have := h.c0; show 0 ≤ m.cur.clock; omega⟩
  · refine ⟨h.fm, h.un, fun _ => growT_trans (h.gr hm) ⟨(tick_ok ht).1, fun i y hy => ⟨y, hy, growS_refl y⟩⟩, h.z, h.c0⟩
  · have hg := set_grow (t := m.cur) (findS_mem hh).2.1 (res_grow he)
    have hg2 := growT_trans (h.gr hm) hg
    unfold resOf
    split
    · refine ⟨h.fm, fun hf => (by have := h.fm hm; have hf : m.fmt = false := hf; rw [hf] at this; cases this), fun _ => growT_refl _, fun _ _ => rfl, by have := (h.gr hm).1; have := h.c0; show 0 ≤ m.cur.clock; omega⟩
    · exact ⟨h.fm, h.un, fun _ => hg2, fun _ hz => (by cases hz), h.c0⟩
/-- With an error nothing is changed. -/
theorem do_err {m : MM} {x : StepS} {full : Bool} (h : (doM m x full).2.2 ≠ 0) : (doM m x full).1 = m := by
  rcases do_cases m x full with ⟨e, _⟩ | ⟨_, _, e⟩ | ⟨_, _, _, e⟩ | ⟨_, _, _, _, e⟩ | ⟨_, _, e⟩ | ⟨_, _, _, e⟩ | ⟨_, _, _, _, _, e⟩
  · exact e
  all_goals rw [e] at h; exact absurd rfl h
/-- What is sealed is changed by a sync, a shred, a format alone. -/
theorem do_sure {m : MM} {x : StepS} {full : Bool} (h1 : x.kind ≠ 6) (h2 : x.kind ≠ 10) (h3 : x.kind ≠ 1) : (doM m x full).1.sure = m.sure ∧ (doM m x full).1.fmt = m.fmt := by
  rcases do_cases m x full with ⟨e, _⟩ | ⟨_, _, e⟩ | ⟨_, _, _, e⟩ | ⟨k, _, _, _, e⟩ | ⟨k, _, e⟩ | ⟨_, _, _, e⟩ | ⟨_, _, _, _, _, e⟩
  · rw [e]; exact ⟨rfl, rfl⟩
  · rw [e]; exact ⟨rfl, by show (m.fmt || _) = _; rw [decide_eq_false h3, Bool.or_false]⟩
  · rw [e]; exact ⟨rfl, rfl⟩
  · exact absurd k h1
  · exact absurd k h1
  · rw [e]; exact ⟨rfl, rfl⟩
  · rw [e]
    unfold resOf
    rw [if_neg h2]
    exact ⟨rfl, rfl⟩
/-- Behind a mount, a sync, a shred what is there is sealed. -/
theorem do_same {m : MM} (h : MGr m) {x : StepS} {full : Bool} (he : (doM m x full).2.2 = 0) (hk : x.kind = 2 ∨ x.kind = 6 ∨ x.kind = 10) :
    (doM m x full).1.mnt = true ∧ (doM m x full).1.fmt = true ∧ (doM m x full).1.cur = (doM m x full).1.sure := by
  rcases do_cases m x full with ⟨_, e, _⟩ | ⟨kk, ht, e⟩ | ⟨k, _, _, e⟩ | ⟨_, hm, hz, hc, e⟩ | ⟨_, hm, e⟩ | ⟨k, _, _, e⟩ | ⟨kk, hm, _, _, _, e⟩
  · exact absurd he e
  · have k2 : x.kind = 2 := by omega
    rw [k2] at ht
    rw [e]
    exact ⟨decide_eq_true k2, by show (m.fmt || _) = true; rw [turn_fmt ht]; rfl, rfl⟩
  · omega
  · rw [e]
    refine ⟨hm, h.fm hm, ?_⟩
    have := h.z hm hz
    show m.cur = m.sure
    cases hcur : m.cur
    cases hsure : m.sure
    rw [hcur, hsure] at this hc
    simp at this hc
    subst this; subst hc; rfl
  · rw [e]; exact ⟨hm, h.fm hm, rfl⟩
  · omega
  · have k10 : x.kind = 10 := by omega
    rw [e]
    unfold resOf
    rw [if_pos k10]
    exact ⟨hm, h.fm hm, rfl⟩
/-- What is sealed grows. -/
theorem do_growT {m : MM} (h : MGr m) (x : StepS) (full : Bool) : growT m.sure (doM m x full).1.sure := by
  rcases do_cases m x full with ⟨e, _⟩ | ⟨_, _, e⟩ | ⟨_, _, _, e⟩ | ⟨_, _, _, _, e⟩ | ⟨_, hm, e⟩ | ⟨_, _, _, e⟩ | ⟨_, hm, hh, he, _, e⟩ <;> rw [e]
  · exact growT_refl _
  · exact growT_refl _
  · exact growT_refl _
  · exact growT_refl _
  · exact h.gr hm
  · exact growT_refl _
  · have hg2 := growT_trans (h.gr hm) (set_grow (t := m.cur) (findS_mem hh).2.1 (res_grow he))
    unfold resOf
    split
    · exact hg2
    · exact growT_refl _
end Go.Proofs.YtljbbajelkkafaaDoor.L
