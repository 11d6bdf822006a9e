/-
  Streams behind entries, plain: what stays.
-/
import Derived.Test.YtbemcehcipkliaaNj
namespace Go.Proofs.Ytbemcehcipkliaa.L
open Go
set_option linter.unusedSectionVars false
variable [Globs]
set_option linter.unusedVariables false
theorem res_name (s : StreamS) (e : EntryS) : (resM s e).name = s.name := by
  unfold resM
  repeat' split
  all_goals rfl
theorem res_retain {s : StreamS} {e : EntryS} (he : errM s e = 0) : s.retain ≤ (resM s e).retain := by
  unfold resM
  unfold errM at he
  split
  · exact Int.le_refl _
  rename_i h2
  rw [if_neg h2] at he
  split
  · rename_i h3
    rw [if_pos h3] at he
    unfold errRetain at he
    split at he
    · split at he
      · cases he
      · rename_i h
        show s.retain ≤ e.n
        omega
    · cases he
  repeat' split
  all_goals exact Int.le_refl _
theorem res_rec {s : StreamS} {e : EntryS} {k : Nat} {r : Rec} (h : s.recs[k]? = some r) : ∃ q, (resM s e).recs[k]? = some q ∧ q.hash = r.hash ∧ q.shredded = (r.shredded || (decide (e.kind = 6) && decide (e.n.toNat = k))) := by
  have hl := (List.getElem?_eq_some_iff.1 h).1
  unfold resM
  by_cases k2 : e.kind = 2
  · rw [if_pos k2]
    exact ⟨r, by show (s.recs ++ [mkRec e])[k]? = _; rw [List.getElem?_append_left hl, h], rfl, by simp [k2]⟩
  rw [if_neg k2]
  by_cases k3 : e.kind = 3
  · rw [if_pos k3]; exact ⟨r, h, rfl, by simp [k3]⟩
  rw [if_neg k3]
  by_cases k4 : e.kind = 4
  · rw [if_pos k4]; exact ⟨r, h, rfl, by simp [k4]⟩
  rw [if_neg k4]
  by_cases k5 : e.kind = 5
  · rw [if_pos k5]; exact ⟨r, h, rfl, by simp [k5]⟩
  rw [if_neg k5]
  by_cases k6 : e.kind = 6
  · rw [if_pos k6]
    exact ⟨_, shredM_at h, rfl, by simp [k6]⟩
  · rw [if_neg k6]; exact ⟨r, h, rfl, by simp [k6]⟩
theorem res_len {s : StreamS} {e : EntryS} : (resM s e).recs.length = s.recs.length + (if e.kind = 2 then 1 else 0) := by
  unfold resM
  by_cases k2 : e.kind = 2
  · rw [if_pos k2, if_pos k2]; show (s.recs ++ [mkRec e]).length = _; rw [List.length_append]; rfl
  rw [if_neg k2, if_neg k2]
  repeat' split
  all_goals first | rfl | exact shredM_len _ _
theorem res_new {s : StreamS} {e : EntryS} {q : Rec} {i : Nat} (hi : s.recs.length ≤ i) (h : (resM s e).recs[i]? = some q) : e.kind = 2 ∧ i = s.recs.length ∧ q.shredded = false := by
  have hl := (List.getElem?_eq_some_iff.1 h).1
  rw [res_len] at hl
  by_cases k2 : e.kind = 2
  · rw [if_pos k2] at hl
    have hi2 : i = s.recs.length := by omega
    refine ⟨k2, hi2, ?_⟩
    unfold resM at h
    rw [if_pos k2] at h
    have h : (s.recs ++ [mkRec e])[i]? = some q := h
    rw [hi2, List.getElem?_append_right (Nat.le_refl _), Nat.sub_self] at h
    injection h with h
    rw [← h]; rfl
  · rw [if_neg k2] at hl; omega
/-- What marks a record. -/
def wasM (s : StreamS) (i : Nat) : Bool := match s.recs[i]? with | some r => r.shredded | none => false
def hitM (e : EntryS) (i : Nat) : Bool := decide (e.kind = 6) && decide (e.n = (i : Int))
theorem shred_law {s : StreamS} {e : EntryS} (he : errM s e = 0) {i : Nat} {q : Rec} (h : (resM s e).recs[i]? = some q) : q.shredded = (wasM s i || hitM e i) ∧ (wasM s i && hitM e i) = false := by
  unfold wasM hitM
  by_cases hi : i < s.recs.length
  · obtain ⟨r, hr⟩ : ∃ r, s.recs[i]? = some r := ⟨_, List.getElem?_eq_getElem hi⟩
    obtain ⟨q', hq', _, hsh⟩ := res_rec (e := e) hr
    rw [h] at hq'; injection hq' with hq'; subst hq'
    rw [hr]
    simp only []
    by_cases k6 : e.kind = 6
    · unfold errM at he
      rw [if_neg (by omega), if_neg (by omega), if_neg (by omega), if_neg (by omega), if_pos k6] at he
      unfold errShred at he
      split at he
      · cases he
      rename_i hn
      have hd : decide (e.n.toNat = i) = decide (e.n = (i : Int)) := decide_eq_decide.2 (by omega)
      rw [hd] at hsh
      refine ⟨hsh, ?_⟩
      by_cases hni : e.n = (i : Int)
      · rw [show e.n.toNat = i by omega, hr] at he
        simp only [] at he
        cases hrs : r.shredded with
        | false => rfl
        | true => rw [hrs] at he; cases he
      · rw [decide_eq_false hni]; simp
    · rw [decide_eq_false k6] at hsh ⊢
      exact ⟨hsh, by simp⟩
  · rw [List.getElem?_eq_none (by omega)]
    obtain ⟨k2, _, hq⟩ := res_new (by omega) h
    rw [hq, decide_eq_false (show ¬ e.kind = 6 by omega)]
    exact ⟨rfl, rfl⟩
theorem check_len {s : StreamS} (h : checkM s = true) : s.recs.length ≤ 64 ∧ s.holds.length ≤ 4 := by
  obtain ⟨_, _, ⟨_, _, h4⟩, _, _, h8⟩ := checkM_iff.1 h
  exact ⟨h8, h4⟩
theorem wrap_toInt (y : BitVec 64) : IntKind.i64.wrap (y.toNat : Int) = y.toInt := by
  have hy := y.isLt
  have e : (y.toNat : Int) % 2 ^ 64 = y.toNat := Int.emod_eq_of_lt (by omega) (by omega)
  show (if (true && decide ((y.toNat : Int) % 2 ^ 64 ≥ 2 ^ (64 - 1))) = true then (y.toNat : Int) % 2 ^ 64 - 2 ^ 64 else (y.toNat : Int) % 2 ^ 64) = y.toInt
  rw [BitVec.toInt_eq_toNat_cond]
  simp only [e, Bool.true_and, decide_eq_true_eq]
  split <;> split <;> omega
theorem xor_ne (m : Int) : IntKind.i64.wrap ((BitVec.ofInt IntKind.i64.bits m ^^^ BitVec.ofInt IntKind.i64.bits 1).toNat : Int) ≠ m := by
  intro h
  have h : IntKind.i64.wrap ((BitVec.ofInt 64 m ^^^ 1#64).toNat : Int) = m := h
  rw [wrap_toInt] at h
  have h2 := congrArg (BitVec.ofInt 64) h
  rw [BitVec.ofInt_toInt] at h2
  have h3 := congrArg (fun z => BitVec.ofInt 64 m ^^^ z) h2
  simp only [← BitVec.xor_assoc, BitVec.xor_self, BitVec.zero_xor] at h3
  exact absurd h3 (by decide)
end Go.Proofs.Ytbemcehcipkliaa.L
