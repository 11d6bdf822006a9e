/-
  Rules of the logic: slices of owned memory, rows that grow, texts, package variables, equality of arrays.
-/
import Derived.Test.YtljdjagackdplaaDoorLg
set_option linter.unusedVariables false
set_option linter.unusedSimpArgs false
namespace Go.Proofs.YtljdjagackdplaaDoor.L
open Go
set_option linter.unusedSectionVars false
variable [Globs]

section
variable {P : Program} {Γ : Env} {Δ : List Res} {d : Option Nat} {ty : Nat} {pos : String} {af : Array Edge} {g : Option (Nat × Bool)} {x y : Operand} {t yt : Nat}

/-! ### Pointers -/
theorem op_nilCheck {a : Addr} (h : opd Γ x = some (is (.pointer (some a)))) : OpP P Γ Δ ⟨d, .nilCheck x, ty, pos, af, g⟩ (is (.pointer (some a))) :=
  OpP.same fun H A w hx hs => by
    have hv : A.eval x = .pointer (some a) := hx x (by simp [Op.operands]) _ h
    refine ⟨_, ?_, rfl⟩
    simp only [execOp, hv]
    rfl
theorem op_peq {a : Addr} {e : Nat} [hp : TPtr P t e] (h : opd Γ x = some (is (.pointer (some a)))) (h2 : opd Γ y = some (is (.pointer none))) : OpP P Γ Δ ⟨d, .binOp .eql t x y yt, ty, pos, af, g⟩ (is (.bool false)) :=
  OpP.same fun H A w hx hs => by
    have hv : A.eval x = .pointer (some a) := hx x (by simp [Op.operands]) _ h
    have hv2 : A.eval y = .pointer none := hx y (by simp [Op.operands]) _ h2
    refine ⟨_, ?_, rfl⟩
    simp only [execOp, hv, hv2]
    refine run_value ?_
    refine (run_bind _ _ w (show (eqGuard .eql t x y (.pointer (some a)) (.pointer none)).run P w = .ok () w from rfl)).trans ?_
    have : (Op.equal t (.pointer (some a)) (.pointer none)).run P w = .ok false w := by
      unfold Op.equal Op.maxDepth Op.equalIn
      exact (run_bind (underlying t) _ w (run_underlying' hp.h)).trans rfl
    exact (run_bind (Op.equal t (.pointer (some a)) (.pointer none)) (fun r => pure (Value.bool r)) w this).trans rfl

/-! ### Package variables -/
theorem op_gload {α : Type} (T : Td α) {v : α} {G : Nat} {cs : List Value} {o : Nat} (hg : (G, cs) ∈ globs) (h : opd Γ x = some (is (.pointer (some ⟨G, o, none⟩)))) (h1 : cs.all (fun c => c.oneCell') = true) [TSz P t T.sz] [TAg P t T.ag] (hx : T.cells v = ((cs.drop o).take T.sz).map is) : OpP P Γ Δ ⟨d, .load t x, ty, pos, af, g⟩ (T.val v) :=
  OpP.same fun H A w hxx hs => by
    have hv : A.eval x = .pointer (some ⟨G, o, none⟩) := hxx x (by simp [Op.operands]) _ h
    have hl : ((cs.drop o).take T.sz).length = T.sz := by have := congrArg List.length hx; rw [T.len, List.length_map] at this; exact this.symm
    have hcs : All2 (fun φ c => φ.c H c) (T.cells v) ((cs.drop o).take T.sz) := by
      rw [hx]
      refine All2.of_get (by simp) fun i φ c hi hc => ?_
      rw [List.getElem?_map, hc] at hi
      injection hi with hi; subst hi
      exact ⟨rfl, List.all_eq_true.1 h1 c (List.mem_of_mem_drop (List.mem_of_mem_take (List.mem_of_getElem? hc)))⟩
    refine ⟨_, ?_, T.inn hcs⟩
    simp only [execOp, hv]
    refine run_value ?_
    refine run_loadVar (ag := T.ag) (n := T.sz) w G o _ hl T.one fun j c hj => ?_
    rw [List.getElem?_take] at hj
    split at hj
    · rw [List.getElem?_drop] at hj
      exact hs.cell _ _ _ (hs.gk G cs hg (o + j) c hj)
    · cases hj

/-! ### Slices of memory that is owned -/
theorem op_siaddr {b o n cap e sz : Nat} {k : IntKind} {i : Int} (h : opd Γ x = some (is (.slice (some ⟨b, o, none⟩) n cap))) (hz : opd Γ y = some (is (.int k i))) [ht : TSl P t e] [TSz P e sz] (h0 : 0 ≤ i) (h1 : i < n) : OpP P Γ Δ ⟨d, .indexAddr t x y, ty, pos, af, g⟩ (is (.pointer (some ⟨b, o + i.toNat * sz, none⟩))) :=
  OpP.same fun H A w hxx hs => by
    have hv : A.eval x = .slice (some ⟨b, o, none⟩) n cap := hxx x (by simp [Op.operands]) _ h
    have hi : A.eval y = .int k i := hxx y (by simp [Op.operands]) _ hz
    refine ⟨_, ?_, rfl⟩
    simp only [execOp, hv, hi]
    refine run_value ?_
    simp only [Instr.indexAt, asIntOf, Sem.run_bind, Sem.run_pure, Result.andThen_ok, run_underlying' ht.h]
    rw [if_pos (by omega)]
    simp only [Sem.run_bind, run_sizeOf (t := e) (n := sz), Result.andThen_ok, add_at]
    rfl
def boundV (Γ : Env) (x : Option Operand) (n : Nat) : Prop := match x with | none => False | some x => ∃ k, opd Γ x = some (is (.int k (n : Int)))
theorem run_bound {k : IntKind} {i y : Nat} {code : BoundsCode} {w : World} (h : i ≤ y) : (Instr.sliceBound (.int k (i : Int)) y code).run P w = .ok i w := by
  have := run_sliceBound (P := P) w k (i : Int) y code (by omega) (by omega)
  simpa using this
theorem run_sliceAt_sl {e : Nat} (ht : P.underlying t = some (.slice e)) {v : Value} {lo hi mx : Option Value} {w : World} : (Instr.sliceAt t v lo hi mx).run P w = (Instr.slice t v lo hi mx).run P w := by
  unfold Instr.sliceAt
  exact (run_bind (underlying t) _ w (run_underlying' ht))
/-- s[:hi] -/
theorem op_sl_hi {b o n cap e sz hi : Nat} {k : IntKind} (h : opd Γ x = some (is (.slice (some ⟨b, o, none⟩) n cap))) (hh : opd Γ y = some (is (.int k (hi : Int)))) [ht : TSl P t e] [TSz P e sz] (h1 : hi ≤ cap) : OpP P Γ Δ ⟨d, .slice t x none (some y) none, ty, pos, af, g⟩ (is (.slice (some ⟨b, o, none⟩) hi cap)) :=
  OpP.same fun H A w hxx hs => by
    have hv : A.eval x = .slice (some ⟨b, o, none⟩) n cap := hxx x (by simp [Op.operands]) _ h
    have hi' : A.eval y = .int k (hi : Int) := hxx y (by simp [Op.operands]) _ hh
    refine ⟨_, ?_, rfl⟩
    simp only [execOp, hv]
    refine run_value ?_
    rw [run_sliceAt_sl ht.h]
    unfold Instr.slice
    refine (run_bind (underlying t) _ w (run_underlying' ht.h)).trans ?_
    simp only [Option.map_some, Option.map_none, hi']
    refine (run_bind (Instr.sliceBounds true n cap none (some (.int k (hi : Int))) none) _ w (a := (0, hi, cap)) (w' := w) ?_).trans ?_
    · unfold Instr.sliceBounds
      simp only [Sem.run_bind, Sem.run_pure, Result.andThen_ok, run_bound h1]
    · refine (run_bind (sizeOf e) _ w (run_sizeOf (t := e) (n := sz))).trans ?_
      by_cases h0 : cap = 0
      · subst h0; simp
      · simp [h0, Addr.add]
/-- s[lo:] -/
theorem op_sl_lo {b o n cap e sz lo : Nat} {k : IntKind} (h : opd Γ x = some (is (.slice (some ⟨b, o, none⟩) n cap))) (hh : opd Γ y = some (is (.int k (lo : Int)))) [ht : TSl P t e] [TSz P e sz] (h1 : lo ≤ n) : OpP P Γ Δ ⟨d, .slice t x (some y) none none, ty, pos, af, g⟩ (is (.slice (some ⟨b, if cap = lo then o else o + lo * sz, none⟩) (n - lo) (cap - lo))) :=
  OpP.same fun H A w hxx hs => by
    have hv : A.eval x = .slice (some ⟨b, o, none⟩) n cap := hxx x (by simp [Op.operands]) _ h
    have hi' : A.eval y = .int k (lo : Int) := hxx y (by simp [Op.operands]) _ hh
    refine ⟨_, ?_, rfl⟩
    simp only [execOp, hv]
    refine run_value ?_
    rw [run_sliceAt_sl ht.h]
    unfold Instr.slice
    refine (run_bind (underlying t) _ w (run_underlying' ht.h)).trans ?_
    simp only [Option.map_some, Option.map_none, hi']
    refine (run_bind (Instr.sliceBounds true n cap (some (.int k (lo : Int))) none none) _ w (a := (lo, n, cap)) (w' := w) ?_).trans ?_
    · unfold Instr.sliceBounds
      simp only [Sem.run_bind, Sem.run_pure, Result.andThen_ok, run_bound h1]
    · refine (run_bind (sizeOf e) _ w (run_sizeOf (t := e) (n := sz))).trans ?_
      by_cases h0 : cap = lo
      · subst h0; simp
      · simp [h0, add_at]

/-! ### Texts -/
theorem op_sadd {a b : List UInt8} (h1 : opd Γ x = some (is (str a))) (h2 : opd Γ y = some (is (str b))) (hl : a.length + b.length ≤ 9223372036854775807) : OpP P Γ Δ ⟨d, .binOp .add t x y yt, ty, pos, af, g⟩ (is (str (a ++ b))) :=
  op_bin h1 h2 fun w => by
    refine (run_bind _ _ w (show (eqGuard .add t x y (str a) (str b)).run P w = .ok () w from rfl)).trans ?_
    show (Op.stringOp .add ⟨a.toArray⟩ ⟨b.toArray⟩).run P w = _
    unfold Op.stringOp
    have e : ¬ ((((⟨a.toArray⟩ : ByteArray).size + (⟨b.toArray⟩ : ByteArray).size : Nat) : Int) > IntKind.i64.max) := by
      show ¬ (((a.toArray.size + b.toArray.size : Nat) : Int) > 9223372036854775807)
      simp; omega
    simp only [e, if_false]
    rw [ByteArray.mk_append_mk]
    rfl
theorem op_seql {a b : List UInt8} (h1 : opd Γ x = some (is (str a))) (h2 : opd Γ y = some (is (str b))) : OpP P Γ Δ ⟨d, .binOp .eql t x y yt, ty, pos, af, g⟩ (is (.bool (decide (a = b)))) :=
  op_bin h1 h2 fun w => by
    refine (run_bind _ _ w (show (eqGuard .eql t x y (str a) (str b)).run P w = .ok () w from rfl)).trans ?_
    show (Op.stringOp .eql ⟨a.toArray⟩ ⟨b.toArray⟩).run P w = _
    unfold Op.stringOp
    show Result.ok (Value.bool ((⟨a.toArray⟩ : ByteArray).toList == (⟨b.toArray⟩ : ByteArray).toList)) w = _
    rw [ByteArray.toList_mk, ByteArray.toList_mk]
    congr 2
    exact Bool.eq_iff_iff.2 (by simp)
theorem op_sidx {s : List UInt8} {k : IntKind} {i : Int} {b : UInt8} [ht : TStr P t] (h1 : opd Γ x = some (is (str s))) (h2 : opd Γ y = some (is (.int k i))) (h0 : 0 ≤ i) (hb : s[i.toNat]? = some b) : OpP P Γ Δ ⟨d, .index t x y, ty, pos, af, g⟩ (is (.int .u8 (b.toNat : Int))) :=
  OpP.same fun H A w hxx hs => by
    have hv : A.eval x = str s := hxx x (by simp [Op.operands]) _ h1
    have hi : A.eval y = .int k i := hxx y (by simp [Op.operands]) _ h2
    refine ⟨_, ?_, rfl⟩
    simp only [execOp, hv, hi]
    refine run_value ?_
    have hlt := (List.getElem?_eq_some_iff.1 hb).1
    have hg : (⟨s.toArray⟩ : ByteArray)[i.toNat]? = some b := by
      rw [getElem?_pos (⟨s.toArray⟩ : ByteArray) i.toNat (show i.toNat < s.toArray.size by simpa using hlt)]
      congr 1
      exact (List.getElem?_eq_some_iff.1 hb).2
    simp only [Instr.index, asIntOf, str, Sem.run_bind, Sem.run_pure, Result.andThen_ok, run_underlying' ht.h, if_pos h0, hg]
theorem op_sslice {s : List UInt8} {k k2 : IntKind} {lo hi : Nat} {z : Operand} [ht : TStr P t] (h : opd Γ x = some (is (str s))) (h1 : opd Γ y = some (is (.int k (lo : Int)))) (h2 : opd Γ z = some (is (.int k2 (hi : Int)))) (hlh : lo ≤ hi) (hhl : hi ≤ s.length) : OpP P Γ Δ ⟨d, .slice t x (some y) (some z) none, ty, pos, af, g⟩ (is (str ((s.drop lo).take (hi - lo)))) :=
  OpP.same fun H A w hxx hs => by
    have hv : A.eval x = str s := hxx x (by simp [Op.operands]) _ h
    have h1' : A.eval y = .int k (lo : Int) := hxx y (by simp [Op.operands]) _ h1
    have h2' : A.eval z = .int k2 (hi : Int) := hxx z (by simp [Op.operands]) _ h2
    refine ⟨_, ?_, rfl⟩
    simp only [execOp, hv]
    refine run_value ?_
    have e0 : (Instr.sliceAt t (str s) (some (A.eval y)) (some (A.eval z)) none).run P w = (Instr.slice t (str s) (some (A.eval y)) (some (A.eval z)) none).run P w := by
      unfold Instr.sliceAt
      exact run_bind (underlying t) _ w (run_underlying' ht.h)
    simp only [Option.map_some, Option.map_none]
    rw [e0, h1', h2']
    unfold Instr.slice
    refine (run_bind (underlying t) _ w (run_underlying' ht.h)).trans ?_
    have hsz : (⟨s.toArray⟩ : ByteArray).size = s.length := by show s.toArray.size = _; simp
    refine (run_bind (Instr.sliceBounds false (⟨s.toArray⟩ : ByteArray).size (⟨s.toArray⟩ : ByteArray).size (some (.int k (lo : Int))) (some (.int k2 (hi : Int))) none) _ w (a := (lo, hi, s.length)) (w' := w) ?_).trans ?_
    · unfold Instr.sliceBounds
      simp only [Sem.run_bind, Sem.run_pure, Result.andThen_ok, hsz, run_bound hhl, run_bound hlh]
    · show Result.ok (Value.string ((⟨s.toArray⟩ : ByteArray).extract lo hi)) w = Result.ok (str ((s.drop lo).take (hi - lo))) w
      congr 2
      apply ByteArray.ext
      rw [ByteArray.data_extract]
      simp [List.extract_eq_take_drop]
end
end Go.Proofs.YtljdjagackdplaaDoor.L
