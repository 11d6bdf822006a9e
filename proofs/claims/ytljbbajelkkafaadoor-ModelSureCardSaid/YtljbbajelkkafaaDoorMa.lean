/-
  A file system as lists: streams, what is sealed, and the steps (plain).
-/
import Derived.Test.YtljbbajelkkafaaDoorNe
import Derived.Test.YtljbbajelkkafaaDoorPol
import Derived.Test.YtljbbajelkkafaaDoorTm
namespace Go.Proofs.YtljbbajelkkafaaDoor.L
open Go
set_option linter.unusedSectionVars false
variable [Globs] [Has_sha_table] [Has_sha_begin]
set_option linter.unusedVariables false
structure MRec where
  time : Int
  text : Str
  shred : Bool
  hash : Hash
deriving DecidableEq
structure MStr where
  name : Str
  retain : Int
  holds : List Str
  recs : List MRec
deriving DecidableEq
structure MSt where
  clock : Int
  streams : List MStr
deriving DecidableEq
/-- A model: what is sealed, what is there, how many entries are to be done. -/
structure MM where
  fmt : Bool
  mnt : Bool
  sure : MSt
  cur : MSt
  todo : Nat
structure RecV where
  time : Int
  text : Str
  shred : Bool
deriving DecidableEq
structure SeenV where
  name : Str
  retain : Int
  holds : List Str
  recs : List RecV
deriving DecidableEq
structure ViewV where
  clock : Int
  streams : List SeenV
deriving DecidableEq
structure StepS where
  kind : Int
  n : Int
  name : Str
  text : Str
  keep : List Int
structure StatV where
  name : Str
  retain : Int
  holds : List Str
  recs : Int
  live : Int
def MRec.v (r : MRec) : RecV := ⟨r.time, r.text, r.shred⟩
def MStr.v (s : MStr) : SeenV := ⟨s.name, s.retain, s.holds, s.recs.map MRec.v⟩
def MSt.v (s : MSt) : ViewV := ⟨s.clock, s.streams.map MStr.v⟩
def emptyV : ViewV := ⟨0, []⟩
def emptyS : MSt := ⟨0, []⟩
def newMM : MM := ⟨false, false, emptyS, emptyS, 0⟩
/-- Where a stream is. -/
def isN (x : Str) (s : MStr) : Bool := decide (s.name = x)
def findN (l : List MStr) (x : Str) : Nat := l.findIdx (isN x)
def hasN (l : List MStr) (x : Str) : Bool := l.any (isN x)
def errFind (m : MM) (x : Str) : Int := if m.mnt then (if hasN m.cur.streams x then 0 else 4) else 240
def findS (m : MM) (x : Str) : MStr := m.cur.streams.getD (findN m.cur.streams x) ⟨[], 0, [], []⟩
def errRead (s : MStr) (i : Int) : Int := if i < 0 ∨ (s.recs.length : Int) ≤ i then 161 else match s.recs[i.toNat]? with | some r => if r.shred then 162 else 0 | none => 0
def textAt (s : MStr) (i : Int) : Str := match s.recs[i.toNat]? with | some r => r.text | none => []
def readM (m : MM) (x : Str) (i : Int) : Str × Int :=
  if errFind m x = 0 then (if errRead (findS m x) i = 0 then (textAt (findS m x) i, 0) else ([], errRead (findS m x) i)) else ([], errFind m x)
def liveM (l : List MRec) : Nat := (l.filter fun r => !r.shred).length
def zeroStat : StatV := ⟨[], 0, [], 0, 0⟩
def statS (s : MStr) : StatV := ⟨s.name, s.retain, s.holds, s.recs.length, liveM s.recs⟩
def statMM (m : MM) (x : Str) : StatV × Int := if errFind m x = 0 then (statS (findS m x), 0) else (zeroStat, errFind m x)
def hashesM (m : MM) (x : Str) : List Hash × Int := if errFind m x = 0 then ((findS m x).recs.map MRec.hash, 0) else ([], errFind m x)
def errDone (todo : Nat) (full : Bool) : Int := if 200 ≤ todo then 3 else if full then 241 else 0
def errCreate (m : MM) (x : Str) : Int := if m.mnt then (if nameOk x then (if hasN m.cur.streams x then 160 else if m.cur.streams.length = 8 then 3 else 0) else 130) else 240
def createMM (m : MM) (x : Str) (full : Bool) : MM × Int :=
  if errCreate m x = 0 then (if errDone m.todo full = 0 then ({ m with cur := ⟨m.cur.clock, m.cur.streams ++ [⟨x, 0, [], []⟩]⟩, todo := m.todo + 1 }, 0) else (m, errDone m.todo full)) else (m, errCreate m x)
def zRec (r : Int) (b : Bool) : Rec := ⟨r, 0, zeroH, ⟨0, 0⟩, b⟩
def errShredM (s : MStr) (clock i : Int) : Int :=
  if i < 0 ∨ (s.recs.length : Int) ≤ i then 161 else match s.recs[i.toNat]? with | some r => mayM (zRec r.time r.shred) s.retain s.holds.length clock | none => 0
/-- Why a step of a stream may not be. -/
def errS (s : MStr) (clock : Int) (x : StepS) : Int :=
  if x.kind = 5 then (if 300 < x.text.length ∨ s.recs.length = 64 then 3 else 0)
  else if x.kind = 7 then longerM s.retain x.n
  else if x.kind = 8 then (if nameOk x.text then (if x.text ∈ s.holds then 142 else if s.holds.length = 4 then 3 else 0) else 130)
  else if x.kind = 9 then (if x.text ∈ s.holds then 0 else 143)
  else errShredM s clock x.n
def shredR (l : List MRec) (i : Nat) : List MRec := match l[i]? with | some r => l.set i { r with shred := true, text := [] } | none => l
def resS (s : MStr) (clock : Int) (x : StepS) : MStr :=
  if x.kind = 5 then { s with recs := s.recs ++ [⟨clock, x.text, false, leafH x.text⟩] }
  else if x.kind = 7 then { s with retain := x.n }
  else if x.kind = 8 then { s with holds := addM s.holds x.text }
  else if x.kind = 9 then { s with holds := remM s.holds x.text }
  else { s with recs := shredR s.recs x.n.toNat }
def sealM (m : MM) : MM := { m with sure := m.cur, todo := 0 }
def putM (m : MM) (i : Nat) (s : MStr) : MM := { m with cur := ⟨m.cur.clock, m.cur.streams.set i s⟩ }
def resOf (m : MM) (x : StepS) : MM :=
  if x.kind = 10 then sealM { putM m (findN m.cur.streams x.name) (resS (findS m x.name) m.cur.clock x) with todo := m.todo + 1 }
  else { putM m (findN m.cur.streams x.name) (resS (findS m x.name) m.cur.clock x) with todo := m.todo + 1 }
def ofM (m : MM) (x : StepS) (full : Bool) : MM × Int × Int :=
  if errFind m x.name = 0 then
    (if errS (findS m x.name) m.cur.clock x = 0 then
      (if errDone m.todo full = 0 then (resOf m x, (if x.kind = 5 then ((findS m x.name).recs.length : Int) else 0), 0) else (m, 0, errDone m.todo full))
    else (m, 0, errS (findS m x.name) m.cur.clock x))
  else (m, 0, errFind m x.name)
def syncM (m : MM) (full : Bool) : MM × Int :=
  if m.mnt then (if m.todo = 0 ∧ m.cur.clock = m.sure.clock then (m, 0) else if full then (m, 241) else (sealM m, 0)) else (m, 240)
def errTurn (m : MM) (k : Int) (full : Bool) : Int :=
  if m.mnt = decide (k = 3) then (if k = 1 then (if m.fmt then 160 else if full then 241 else 0) else if k = 2 then (if m.fmt then 0 else 4) else 0) else 240
def turnM (m : MM) (k : Int) (full : Bool) : MM × Int :=
  if errTurn m k full = 0 then (⟨m.fmt || decide (k = 1), decide (k = 2), m.sure, m.sure, 0⟩, 0) else (m, errTurn m k full)
def tickMM (m : MM) (n : Int) : MM × Int :=
  if m.mnt then (if (tickM m.cur.clock n).2 = 0 then ({ m with cur := ⟨(tickM m.cur.clock n).1, m.cur.streams⟩ }, 0) else (m, (tickM m.cur.clock n).2)) else (m, 240)
def flat0 (q : MM × Int) : MM × Int × Int := (q.1, 0, q.2)
def doM (m : MM) (x : StepS) (full : Bool) : MM × Int × Int :=
  if x.kind = 1 ∨ x.kind = 2 ∨ x.kind = 3 then flat0 (turnM m x.kind full)
  else if x.kind = 4 then flat0 (createMM m x.name full)
  else if x.kind = 6 then flat0 (syncM m full)
  else if x.kind = 11 then flat0 (tickMM m x.n)
  else if x.kind = 5 ∨ x.kind = 7 ∨ x.kind = 8 ∨ x.kind = 9 ∨ x.kind = 10 then ofM m x full
  else (m, 0, 2)
/-- What stays so in each step. -/
def StrOk (s : MStr) : Prop := s.recs.length ≤ 64 ∧ s.holds.length ≤ 4 ∧ adj slt s.holds = true ∧ ∀ r ∈ s.recs, r.text.length ≤ 300
def StOk (t : MSt) : Prop := t.streams.length ≤ 8 ∧ ∀ s ∈ t.streams, StrOk s
structure MOk (m : MM) : Prop where
  sure : StOk m.sure
  cur : StOk m.cur
  todo : m.todo ≤ 200
theorem zeroRec_len : (⟨[], 0, [], []⟩ : MStr).recs.length ≤ 64 := by decide
theorem new_ok : MOk newMM := ⟨⟨by decide, fun s h => by cases h⟩, ⟨by decide, fun s h => by cases h⟩, by decide⟩
/-- A stream of a name is there, or none is. -/
theorem find_cases (l : List MStr) (x : Str) : (hasN l x = false ∧ (∀ y ∈ l, y.name ≠ x) ∧ ∀ (j : Nat) (z : MStr), l[j]? = some z → z.name ≠ x) ∨ ∃ (s : MStr), hasN l x = true ∧ l[findN l x]? = some s ∧ s.name = x ∧ ∀ (j : Nat) (z : MStr), j < findN l x → l[j]? = some z → z.name ≠ x := by
  cases h : hasN l x with
  | false =>
    left
    have hn : ∀ y ∈ l, y.name ≠ x := fun y hy e => by
      have := List.any_eq_false.1 h y hy
      exact this (by unfold isN; exact decide_eq_true e)
    exact ⟨rfl, hn, fun j z hz => hn z (List.mem_of_getElem? hz)⟩
  | true =>
    right
    obtain ⟨y, hy, hyn⟩ := List.any_eq_true.1 h
    have hlt : findN l x < l.length := List.findIdx_lt_length_of_exists ⟨y, hy, hyn⟩
    refine ⟨l[findN l x], rfl, List.getElem?_eq_getElem hlt, ?_, fun j z hj hz => ?_⟩
    · have := List.findIdx_getElem (p := isN x) (xs := l) (w := hlt)
      exact of_decide_eq_true this
    · have := List.not_of_lt_findIdx (p := isN x) (xs := l) hj
      have hjl := (List.getElem?_eq_some_iff.1 hz)
      obtain ⟨h1, h2⟩ := hjl
      rw [h2] at this
      intro e
      rw [show isN x z = true from decide_eq_true e] at this; cases this
theorem findS_of {m : MM} {x : Str} {s : MStr} (h : m.cur.streams[findN m.cur.streams x]? = some s) : findS m x = s := by
  unfold findS; rw [List.getD_eq_getElem?_getD, h]; rfl
theorem errFind_0 {m : MM} {x : Str} (h1 : m.mnt = true) (h2 : hasN m.cur.streams x = true) : errFind m x = 0 := by unfold errFind; rw [h1, h2]; rfl
theorem errFind_4 {m : MM} {x : Str} (h1 : m.mnt = true) (h2 : hasN m.cur.streams x = false) : errFind m x = 4 := by unfold errFind; rw [h1, h2]; rfl
theorem errFind_m {m : MM} {x : Str} (h1 : m.mnt = false) : errFind m x = 240 := by unfold errFind; rw [h1]; rfl
theorem findN_at {l : List MStr} {x : Str} {s : MStr} {i : Nat} (h : l[i]? = some s) (hs : s.name = x) (hb : ∀ (j : Nat) (z : MStr), j < i → l[j]? = some z → z.name ≠ x) : findN l x = i ∧ hasN l x = true := by
  have h1 : isN x s = true := decide_eq_true hs
  refine ⟨?_, List.any_eq_true.2 ⟨s, List.mem_of_getElem? h, h1⟩⟩
  have hlt := (List.getElem?_eq_some_iff.1 h).1
  have he := (List.getElem?_eq_some_iff.1 h).2
  refine (List.findIdx_eq hlt).2 ⟨by rw [he]; exact h1, fun j hj => ?_⟩
  have := hb j l[j] hj (List.getElem?_eq_getElem (by omega))
  exact decide_eq_false this
end Go.Proofs.YtljbbajelkkafaaDoor.L
