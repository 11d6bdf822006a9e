/-
  States, as data and plain: which may be, and what becomes of one by entries.
-/
import Derived.Test.YtbemcehcipkliaaNp
namespace Go.Proofs.Ytbemcehcipkliaa.L
open Go Go.RowKit
set_option linter.unusedSectionVars false
variable [Globs]
set_option linter.unusedVariables false
structure StateS where
  clock : Int
  streams : List StreamS
deriving DecidableEq
def stateT : Td StateS where
  sz := 2
  cells s := [is (.int .i64 s.clock), sl streamT.toTy s.streams]
  len _ := rfl
  ag := true
  one h := by cases h
  sc x H v h _ := by cases h
  pos := by decide
theorem state_clock : Fld stateT.toTy (intT .i64).toTy StateS.clock 0 := ⟨fun s => ⟨[], _, rfl, rfl⟩⟩
theorem state_streams : Fld stateT.toTy (slT streamT).toTy StateS.streams 1 := ⟨fun s => ⟨[is (.int .i64 s.clock)], [], rfl, rfl⟩⟩
def StateOk (t : StateS) : Prop := I64 t.clock ∧ t.streams.length ≤ maxLen ∧ ∀ x ∈ t.streams, StreamOkF x
section
variable {P : Program} {t : Nat}
theorem Rd.State {ti ts tst : Nat} (hst : Rd P tst streamT StreamOkF) [TFld P t 0 0 ti] [TFld P t 1 1 ts] [TSz P t 2] [TSz P ti 1] [TInt P ti .i64] [TSz P ts 1] [TSl P ts tst] [TSz P tst 4] : Rd P t stateT StateOk := ⟨fun {H} enc W fuel cs d ps h => by
  have hl := Rd.lenOf (n := 2) (i := 0) (off := 0) (ft := ti) h
  haveI : TSz P ts (slT streamT).sz := (inferInstance : TSz P ts 1)
  haveI : TSz P tst streamT.sz := (inferInstance : TSz P tst 4)
  obtain ⟨a, ha, h0⟩ := Rd.fld (n := 2) (i := 0) (off := 0) (ft := ti) (T := intT .i64) Rd.i64 h
  obtain ⟨b, hb, h1⟩ := Rd.fld (n := 2) (i := 1) (off := 1) (ft := ts) (T := slT streamT) (Rd.slice hst) h
  exact ⟨⟨a, b⟩, ⟨ha, hb.1, hb.2⟩, fld_step (off := 0) (sz := 1) (a := [is (.int .i64 a)]) h0 (fld_step (off := 1) (sz := 1) (a := [sl streamT.toTy b]) h1 (fld_end hl))⟩⟩
end
def zeroT : StateS := ⟨0, []⟩
def findI (l : List StreamS) (x : Str) : Int := idxM (fun y : StreamS => decide (y.name = x)) l
def stOk (t : StateS) (i : Nat) (x : StreamS) : Bool := checkM x && lastT x.recs t.clock && decide (findI t.streams x.name = (i : Int))
def checkS (t : StateS) : Bool := tB t.clock && decide (t.streams.length ≤ 8) && (List.range t.streams.length).all fun i => match t.streams[i]? with | some x => stOk t i x | none => true
theorem checkS_iff {t : StateS} : checkS t = true ↔ tB t.clock = true ∧ t.streams.length ≤ 8 ∧ ∀ (i : Nat) (x : StreamS), t.streams[i]? = some x → stOk t i x = true := by
  unfold checkS
  rw [Bool.and_eq_true, Bool.and_eq_true, decide_eq_true_eq, and_assoc, List.all_eq_true]
  refine and_congr Iff.rfl (and_congr Iff.rfl ⟨fun h i x hx => ?_, fun h i hi => ?_⟩)
  · have := h i (List.mem_range.2 (List.getElem?_eq_some_iff.1 hx).1)
    rw [hx] at this; exact this
  · have hi := List.mem_range.1 hi
    rw [List.getElem?_eq_getElem hi]
    exact h i _ (List.getElem?_eq_getElem hi)
theorem checkS_f {t : StateS} (h : ¬ (tB t.clock = true ∧ t.streams.length ≤ 8 ∧ ∀ (i : Nat) (x : StreamS), t.streams[i]? = some x → stOk t i x = true)) : checkS t = false := by
  cases k : checkS t with
  | false => rfl
  | true => exact absurd (checkS_iff.1 k) h
def createM (t : StateS) (x : Str) : StateS × Int :=
  if nameOk x then (if 0 ≤ findI t.streams x then (zeroT, 160) else if t.streams.length = 8 then (zeroT, 3) else ({ t with streams := t.streams ++ [{ zeroS with name := x }] }, 0)) else (zeroT, 130)
def putS (t : StateS) (k : Nat) (q : StreamS × Int) : StateS × Int := if q.2 = 0 then ({ t with streams := t.streams.set k q.1 }, 0) else (zeroT, q.2)
def applyS (t : StateS) (e : EntryS) : StateS × Int :=
  if checkS t then (if e.kind = 1 then createM t e.name else if e.stream < 0 ∨ (t.streams.length : Int) ≤ e.stream then (zeroT, 4) else if e.kind = 2 ∧ t.clock < e.n then (zeroT, 2)
    else match t.streams[e.stream.toNat]? with | some x => putS t e.stream.toNat (applyM x e) | none => (zeroT, 4)) else (zeroT, 2)
def foldS : StateS → List EntryS → StateS × Int
  | t, [] => (t, 0)
  | t, e :: l => if (applyS t e).2 = 0 then foldS (applyS t e).1 l else (zeroT, (applyS t e).2)
def allS (t : StateS) (l : List EntryS) (clock : Int) : StateS × Int :=
  if checkS t = true ∧ t.clock ≤ clock ∧ clock ≤ 1073741824 then foldS { t with clock := clock } l else (zeroT, 2)

theorem cnt_small {n : Int} (h0 : 0 ≤ n) (h1 : n ≤ 300) : 0 ≤ cntM n ∧ cntM n ≤ 4 := by
  unfold cntM
  rw [if_neg (by omega)]
  omega
/-- A stream that may be is small. -/
theorem check_ok {s : StreamS} (h : checkM s = true) : StreamOkF s ∧ s.recs.length ≤ 64 ∧ s.holds.length ≤ 4 := by
  obtain ⟨h1, h2, ⟨h3, h4, h5⟩, h6, h7, h8⟩ := checkM_iff.1 h
  have hn : ∀ x : Str, nameOk x = true → x.length ≤ 12 := fun x hx => by
    unfold nameOk at hx
    simp only [Bool.and_eq_true, decide_eq_true_eq] at hx
    exact hx.1.1.2
  have hI : ∀ n : Int, 0 ≤ n → n ≤ 1073741824 → I64 n := fun n h1 h2 => by unfold I64; omega
  unfold tB at h2
  simp only [Bool.and_eq_true, decide_eq_true_eq] at h2
  refine ⟨⟨⟨?_, hI _ h2.1 h2.2, ?_, ?_⟩, fun x hx => ?_, fun r hr => ?_⟩, h8, h5⟩
  · have := hn _ h1; unfold maxLen; omega
  · unfold maxLen; omega
  · unfold maxLen; omega
  · have := hn _ (List.all_eq_true.1 h3 x hx); unfold maxLen; omega
  · have := List.all_eq_true.1 h6 r hr
    unfold recOk tB at this
    simp only [Bool.and_eq_true, decide_eq_true_eq] at this
    obtain ⟨⟨⟨⟨⟨⟨a1, a2⟩, a3⟩, a4⟩, a5⟩, a6⟩, a7⟩ := this
    have hc := cnt_small a3 a4
    exact ⟨hI _ a1 a2, hI _ a3 (by omega), hI _ a5 (by omega), hI _ (by omega) (by omega)⟩
/-- What a walk asks of a state. -/
def GoodT (t : StateS) : Prop := t.streams.length ≤ 1000000 ∧ ∀ x ∈ t.streams, StreamOkF x ∧ x.recs.length ≤ 1000000 ∧ x.holds.length ≤ 1000000
theorem stOk_iff {t : StateS} {i : Nat} {x : StreamS} : stOk t i x = true ↔ checkM x = true ∧ lastT x.recs t.clock = true ∧ findI t.streams x.name = (i : Int) := by
  unfold stOk
  rw [Bool.and_eq_true, Bool.and_eq_true, decide_eq_true_eq, and_assoc]
theorem goodS {t : StateS} (h : checkS t = true) : GoodT t := by
  obtain ⟨_, h2, h3⟩ := checkS_iff.1 h
  refine ⟨by omega, fun x hx => ?_⟩
  obtain ⟨i, hi⟩ := List.getElem?_of_mem hx
  have := check_ok (stOk_iff.1 (h3 i x hi)).1
  exact ⟨this.1, by omega, by omega⟩
theorem findI_t {l : List StreamS} {x : Str} {i : Nat} {y : StreamS} (hy : l[i]? = some y) (hn : y.name = x) (h : ∀ (j : Nat) (z : StreamS), j < i → l[j]? = some z → z.name ≠ x) : findI l x = i :=
  idxM_t hy (decide_eq_true hn) fun j z hj hz => decide_eq_false (h j z hj hz)
theorem findI_f {l : List StreamS} {x : Str} (h : ∀ (j : Nat) (z : StreamS), l[j]? = some z → z.name ≠ x) : findI l x = -1 := idxM_f fun j z hz => decide_eq_false (h j z hz)
/-- What a search says. -/
theorem findI_cases (l : List StreamS) (x : Str) : (findI l x = -1 ∧ ∀ y ∈ l, y.name ≠ x) ∨ ∃ (i : Nat) (y : StreamS), findI l x = i ∧ l[i]? = some y ∧ y.name = x ∧ ∀ (j : Nat) (z : StreamS), j < i → l[j]? = some z → z.name ≠ x := by
  by_cases h : ∃ i : Nat, ∃ y, l[i]? = some y ∧ y.name = x
  · obtain ⟨i, hi⟩ := h
    refine .inr ?_
    induction i using Nat.strongRecOn with
    | _ i ih =>
      by_cases hc : ∃ j, j < i ∧ ∃ z, l[j]? = some z ∧ z.name = x
      · obtain ⟨j, hj, hz⟩ := hc
        exact ih j hj hz
      · obtain ⟨y, hy, hn⟩ := hi
        have hb : ∀ (j : Nat) (z : StreamS), j < i → l[j]? = some z → z.name ≠ x := fun j z hj hz e => hc ⟨j, hj, z, hz, e⟩
        exact ⟨i, y, findI_t hy hn hb, hy, hn, hb⟩
  · refine .inl ⟨findI_f fun j z hz e => h ⟨j, z, hz, e⟩, fun y hy e => ?_⟩
    obtain ⟨j, hj⟩ := List.getElem?_of_mem hy
    exact h ⟨j, y, hj, e⟩
end Go.Proofs.Ytbemcehcipkliaa.L
