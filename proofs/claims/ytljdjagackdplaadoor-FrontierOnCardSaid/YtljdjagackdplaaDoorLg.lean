/-
  Rules of the logic: machine words, arrays that are owned, slices of them.
-/
import Derived.Test.YtljdjagackdplaaDoorLf
set_option linter.unusedVariables false
set_option linter.unusedSimpArgs false
namespace Go.Proofs.YtljdjagackdplaaDoor.L
open Go
set_option linter.unusedSectionVars false
variable [Globs]

/-! ### Words of 32 bits -/
def w32 (x : UInt32) : Value := .int .u32 (x.toNat : Int)
def u32W : Td UInt32 where
  sz := 1
  cells x := [is (w32 x)]
  len _ := rfl
  ag := false
  one _ := rfl
  sc x H v _ h := by have : v = w32 x := h; subst this; rfl
  pos := by decide
def shl32 (x : UInt32) (m : Nat) : UInt32 := UInt32.ofNat (x.toNat * 2 ^ m)
def shr32 (x : UInt32) (m : Nat) : UInt32 := UInt32.ofNat (x.toNat / 2 ^ m)
theorem wrapw (n : Nat) : IntKind.u32.wrap (n : Int) = ((UInt32.ofNat n).toNat : Int) := by
  rw [UInt32.toNat_ofNat']
  simp [IntKind.wrap, IntKind.bits, IntKind.signed]
theorem wrapb (n : Nat) : IntKind.u8.wrap (n : Int) = ((UInt8.ofNat n).toNat : Int) := by
  rw [UInt8.toNat_ofNat']
  simp [IntKind.wrap, IntKind.bits, IntKind.signed]
theorem ofInt_w (x : UInt32) : BitVec.ofInt 32 (x.toNat : Int) = x.toBitVec := by
  rw [BitVec.ofInt_natCast]
  apply BitVec.eq_of_toNat_eq
  rw [BitVec.toNat_ofNat]
  exact Nat.mod_eq_of_lt x.toBitVec.isLt
theorem ofInt_b (x : UInt8) : BitVec.ofInt 8 (x.toNat : Int) = x.toBitVec := by
  rw [BitVec.ofInt_natCast]
  apply BitVec.eq_of_toNat_eq
  rw [BitVec.toNat_ofNat]
  exact Nat.mod_eq_of_lt x.toBitVec.isLt
theorem wrap_bv (r : BitVec 32) : IntKind.u32.wrap (r.toNat : Int) = (((⟨r⟩ : UInt32)).toNat : Int) := by
  rw [wrapw, UInt32.toNat_ofNat']
  congr 1
  exact Nat.mod_eq_of_lt r.isLt
theorem wrap_bb (r : BitVec 8) : IntKind.u8.wrap (r.toNat : Int) = (((⟨r⟩ : UInt8)).toNat : Int) := by
  rw [wrapb, UInt8.toNat_ofNat']
  congr 1
  exact Nat.mod_eq_of_lt r.isLt

section
variable {P : Program} {Γ : Env} {Δ : List Res} {d : Option Nat} {ty : Nat} {pos : String} {af : Array Edge} {g : Option (Nat × Bool)} {x y : Operand} {t yt : Nat}
theorem op_addw {m n : UInt32} (h1 : opd Γ x = some (is (w32 m))) (h2 : opd Γ y = some (is (w32 n))) : OpP P Γ Δ ⟨d, .binOp .add t x y yt, ty, pos, af, g⟩ (is (w32 (m + n))) :=
  op_add h1 h2 (by rw [← Int.natCast_add, wrapw]; congr 1)
theorem op_mulw {m n : UInt32} (h1 : opd Γ x = some (is (w32 m))) (h2 : opd Γ y = some (is (w32 n))) : OpP P Γ Δ ⟨d, .binOp .mul t x y yt, ty, pos, af, g⟩ (is (w32 (m * n))) :=
  op_mul h1 h2 (by rw [← Int.natCast_mul, wrapw]; congr 1)
theorem op_andw {m n : UInt32} (h1 : opd Γ x = some (is (w32 m))) (h2 : opd Γ y = some (is (w32 n))) : OpP P Γ Δ ⟨d, .binOp .and t x y yt, ty, pos, af, g⟩ (is (w32 (m &&& n))) :=
  op_int h1 h2 fun w => by
    simp only [binOp, ne_eq, not_true_eq_false, if_false, Op.intBits]
    show Result.ok (Value.int .u32 (IntKind.u32.wrap ((BitVec.ofInt 32 (m.toNat : Int) &&& BitVec.ofInt 32 (n.toNat : Int)).toNat : Int))) w = _
    rw [ofInt_w, ofInt_w, wrap_bv]; rfl
theorem op_orw {m n : UInt32} (h1 : opd Γ x = some (is (w32 m))) (h2 : opd Γ y = some (is (w32 n))) : OpP P Γ Δ ⟨d, .binOp .or t x y yt, ty, pos, af, g⟩ (is (w32 (m ||| n))) :=
  op_int h1 h2 fun w => by
    simp only [binOp, ne_eq, not_true_eq_false, if_false, Op.intBits]
    show Result.ok (Value.int .u32 (IntKind.u32.wrap ((BitVec.ofInt 32 (m.toNat : Int) ||| BitVec.ofInt 32 (n.toNat : Int)).toNat : Int))) w = _
    rw [ofInt_w, ofInt_w, wrap_bv]; rfl
theorem op_xorw {m n : UInt32} (h1 : opd Γ x = some (is (w32 m))) (h2 : opd Γ y = some (is (w32 n))) : OpP P Γ Δ ⟨d, .binOp .xor t x y yt, ty, pos, af, g⟩ (is (w32 (m ^^^ n))) :=
  op_int h1 h2 fun w => by
    simp only [binOp, ne_eq, not_true_eq_false, if_false, Op.intBits]
    show Result.ok (Value.int .u32 (IntKind.u32.wrap ((BitVec.ofInt 32 (m.toNat : Int) ^^^ BitVec.ofInt 32 (n.toNat : Int)).toNat : Int))) w = _
    rw [ofInt_w, ofInt_w, wrap_bv]; rfl
theorem op_notw {m : UInt32} (h1 : opd Γ x = some (is (w32 m))) : OpP P Γ Δ ⟨d, .unOp .xor t x, ty, pos, af, g⟩ (is (w32 (~~~m))) :=
  OpP.same fun H a w hx hs => by
    have hv : a.eval x = w32 m := hx x (by simp [Op.operands]) _ h1
    refine ⟨_, ?_, rfl⟩
    simp only [execOp, hv]
    refine run_value ?_
    show Result.ok (Value.int .u32 (IntKind.u32.wrap ((BitVec.ofInt 32 IntKind.u32.max ^^^ BitVec.ofInt 32 (m.toNat : Int)).toNat : Int))) w = _
    rw [ofInt_w, wrap_bv]
    have e : BitVec.ofInt 32 IntKind.u32.max = BitVec.allOnes 32 := by decide
    have e2 : (⟨BitVec.ofInt 32 IntKind.u32.max ^^^ m.toBitVec⟩ : UInt32) = ~~~m := by
      rw [e]
      apply UInt32.toBitVec_inj.1
      show BitVec.allOnes 32 ^^^ m.toBitVec = ~~~m.toBitVec
      exact BitVec.allOnes_xor
    rw [e2]; rfl
theorem op_shlw {m : UInt32} {k : IntKind} {n : Nat} (h1 : opd Γ x = some (is (w32 m))) (h2 : opd Γ y = some (is (.int k (n : Int)))) (hn : n ≤ 32) : OpP P Γ Δ ⟨d, .binOp .shl t x y yt, ty, pos, af, g⟩ (is (w32 (shl32 m n))) :=
  op_bin h1 h2 fun w => by
    refine (run_bind _ _ w (show (eqGuard .shl t x y (w32 m) (.int k (n : Int))).run P w = .ok () w from rfl)).trans ?_
    show (Op.shift .shl .u32 (m.toNat : Int) k (n : Int)).run P w = _
    unfold Op.shift
    rw [if_neg (by omega)]
    have e : min (n : Int).toNat IntKind.u32.bits = n := by show min n 32 = n; omega
    simp only [e]
    show Result.ok (Value.int .u32 (IntKind.u32.wrap ((m.toNat : Int) * 2 ^ n))) w = _
    have e2 : ((m.toNat : Int) * 2 ^ n) = ((m.toNat * 2 ^ n : Nat) : Int) := by push_cast; rfl
    rw [e2, wrapw]; rfl
theorem op_shrw {m : UInt32} {k : IntKind} {n : Nat} (h1 : opd Γ x = some (is (w32 m))) (h2 : opd Γ y = some (is (.int k (n : Int)))) (hn : n ≤ 32) : OpP P Γ Δ ⟨d, .binOp .shr t x y yt, ty, pos, af, g⟩ (is (w32 (shr32 m n))) :=
  op_bin h1 h2 fun w => by
    refine (run_bind _ _ w (show (eqGuard .shr t x y (w32 m) (.int k (n : Int))).run P w = .ok () w from rfl)).trans ?_
    show (Op.shift .shr .u32 (m.toNat : Int) k (n : Int)).run P w = _
    unfold Op.shift
    rw [if_neg (by omega)]
    have e : min (n : Int).toNat IntKind.u32.bits = n := by show min n 32 = n; omega
    simp only [e]
    show Result.ok (Value.int .u32 ((m.toNat : Int).fdiv (2 ^ n))) w = _
    have e2 : ((m.toNat : Int).fdiv (2 ^ n)) = ((m.toNat / 2 ^ n : Nat) : Int) := by
      have : ((2 : Int) ^ n) = ((2 ^ n : Nat) : Int) := by push_cast; rfl
      rw [this, Int.fdiv_eq_ediv_of_nonneg _ (Int.natCast_nonneg _)]; rfl
    rw [e2]
    unfold w32 shr32
    rw [UInt32.toNat_ofNat']
    have hlt : m.toNat / 2 ^ n < 2 ^ 32 := Nat.lt_of_le_of_lt (Nat.div_le_self _ _) m.toBitVec.isLt
    rw [Nat.mod_eq_of_lt hlt]
theorem op_shrn {m n : Nat} {k k2 : IntKind} (h1 : opd Γ x = some (is (.int k (m : Int)))) (h2 : opd Γ y = some (is (.int k2 (n : Int)))) (hn : n ≤ k.bits) : OpP P Γ Δ ⟨d, .binOp .shr t x y yt, ty, pos, af, g⟩ (is (.int k ((m / 2 ^ n : Nat) : Int))) :=
  op_bin h1 h2 fun w => by
    refine (run_bind _ _ w (show (eqGuard .shr t x y (.int k (m : Int)) (.int k2 (n : Int))).run P w = .ok () w from rfl)).trans ?_
    show (Op.shift .shr k (m : Int) k2 (n : Int)).run P w = _
    unfold Op.shift
    rw [if_neg (by omega)]
    have e : min (n : Int).toNat k.bits = n := by show min n k.bits = n; omega
    simp only [e]
    show Result.ok (Value.int k ((m : Int).fdiv (2 ^ n))) w = _
    have e2 : ((m : Int).fdiv (2 ^ n)) = ((m / 2 ^ n : Nat) : Int) := by
      have : ((2 : Int) ^ n) = ((2 ^ n : Nat) : Int) := by push_cast; rfl
      rw [this, Int.fdiv_eq_ediv_of_nonneg _ (Int.natCast_nonneg _)]; rfl
    rw [e2]
theorem op_convbw {c : UInt8} [h1 : TInt P t .u8] [h2 : TInt P yt .u32] (h : opd Γ x = some (is (.int .u8 (c.toNat : Int)))) : OpP P Γ Δ ⟨d, .convert t yt x, ty, pos, af, g⟩ (is (w32 (UInt32.ofNat c.toNat))) :=
  op_conv h (wrapw _)
theorem op_convwi {c : UInt32} [h1 : TInt P t .u32] [h2 : TInt P yt .i64] (h : opd Γ x = some (is (w32 c))) : OpP P Γ Δ ⟨d, .convert t yt x, ty, pos, af, g⟩ (is (.int .i64 (c.toNat : Int))) :=
  op_conv h (by have := c.toBitVec.isLt; have e : c.toNat = c.toBitVec.toNat := rfl; exact wrapi _ (by omega) (by omega))
theorem op_convib {n : Nat} {k : IntKind} [h1 : TInt P t k] [h2 : TInt P yt .u8] (h : opd Γ x = some (is (.int k (n : Int)))) : OpP P Γ Δ ⟨d, .convert t yt x, ty, pos, af, g⟩ (is (.int .u8 ((UInt8.ofNat n).toNat : Int))) :=
  op_conv h (wrapb _)
theorem op_convwb {n : UInt32} [h1 : TInt P t .u32] [h2 : TInt P yt .u8] (h : opd Γ x = some (is (w32 n))) : OpP P Γ Δ ⟨d, .convert t yt x, ty, pos, af, g⟩ (is (.int .u8 ((UInt8.ofNat n.toNat).toNat : Int))) :=
  op_conv h (wrapb _)

/-! ### Arrays -/
theorem at_flat {α : Type} (T : Ty α) {xs : List α} {post : List Pr} {k : Nat} {v : α} (h : xs[k]? = some v) : ((flat T xs ++ post).drop (0 + k * T.sz)).take T.sz = T.cells v := by
  have hk := (List.getElem?_eq_some_iff.1 h).1
  have hle : (k + 1) * T.sz ≤ xs.length * T.sz := Nat.mul_le_mul_right _ hk
  rw [Nat.succ_mul] at hle
  apply List.ext_getElem?
  intro j
  rw [List.getElem?_take]
  split
  · rename_i hj
    rw [List.getElem?_drop, Nat.zero_add, List.getElem?_append_left (by rw [flat_len]; omega), flat_get T xs k j v h hj]
  · rename_i hj
    rw [List.getElem?_eq_none (by rw [T.len]; omega)]
theorem at_flat0 {α : Type} (T : Ty α) {xs : List α} {k : Nat} {v : α} (h : xs[k]? = some v) : ((flat T xs).drop (0 + k * T.sz)).take T.sz = T.cells v := by
  have := at_flat T (post := []) h
  rwa [List.append_nil] at this
theorem flat_app {α : Type} (T : Ty α) (xs ys : List α) : flat T (xs ++ ys) = flat T xs ++ flat T ys := by simp [flat]
theorem set_flat {α : Type} (T : Ty α) {xs : List α} {post : List Pr} {k : Nat} {v : α} (h : k < xs.length) : splice (flat T xs ++ post) (0 + k * T.sz) (T.cells v) = flat T (xs.set k v) ++ post := by
  have e1 : xs = xs.take k ++ xs[k] :: xs.drop (k + 1) := by rw [← List.drop_eq_getElem_cons h, List.take_append_drop]
  have e2 : xs.set k v = xs.take k ++ v :: xs.drop (k + 1) := by rw [List.set_eq_take_append_cons_drop, if_pos h]
  have hl : (flat T (xs.take k)).length = k * T.sz := by rw [flat_len, List.length_take, Nat.min_eq_left (Nat.le_of_lt h)]
  have fc : ∀ (a : α) (r : List α), flat T (a :: r) = T.cells a ++ flat T r := fun a r => rfl
  have c1 : flat T xs = flat T (xs.take k) ++ (T.cells xs[k] ++ flat T (xs.drop (k + 1))) := (congrArg (flat T) e1).trans (by rw [flat_app, fc])
  have c2 : flat T (xs.set k v) = flat T (xs.take k) ++ (T.cells v ++ flat T (xs.drop (k + 1))) := by rw [e2, flat_app]; rfl
  unfold splice
  rw [c1, c2, Nat.zero_add, ← hl]
  have t1 : (flat T (xs.take k) ++ (T.cells xs[k] ++ flat T (xs.drop (k + 1))) ++ post).take (flat T (xs.take k)).length = flat T (xs.take k) := by
    rw [List.append_assoc, List.take_left']; rfl
  have t2 : (flat T (xs.take k) ++ (T.cells xs[k] ++ flat T (xs.drop (k + 1))) ++ post).drop ((flat T (xs.take k)).length + (T.cells v).length) = flat T (xs.drop (k + 1)) ++ post := by
    rw [T.len, ← List.drop_drop, List.append_assoc, List.drop_left, List.append_assoc, ← T.len xs[k], List.drop_left]
  rw [t1, t2]
  simp
theorem set_flat0 {α : Type} (T : Ty α) {xs : List α} {k : Nat} {v : α} (h : k < xs.length) : splice (flat T xs) (0 + k * T.sz) (T.cells v) = flat T (xs.set k v) := by
  have := set_flat T (post := []) (v := v) h
  rwa [List.append_nil, List.append_nil] at this
/-- An element of an array's value. -/
theorem op_index {α : Type} (T : Td α) {n : Nat} {hn : 0 < n} {xs : Arr α n} {v : α} {i : Int} {k : IntKind} {e : Nat} (h : opd Γ x = some ((arrT n T hn).val xs)) (hz : opd Γ y = some (is (.int k i))) [ht : TArr P t n e] [TSz P e T.sz] [TAg P e T.ag] (h0 : 0 ≤ i) (hx : xs.1[i.toNat]? = some v) : OpP P Γ Δ ⟨d, .index t x y, ty, pos, af, g⟩ (T.val v) :=
  OpP.same fun H a w hxx hs => by
    obtain ⟨cs, hv, hcs⟩ := (show ((arrT n T hn).val xs).h H (a.eval x) from hxx x (by simp [Op.operands]) _ h)
    have hi : a.eval y = .int k i := hxx y (by simp [Op.operands]) _ hz
    have hlt := (List.getElem?_eq_some_iff.1 hx).1
    rw [xs.2] at hlt
    have hc : All2 (fun φ c => φ.c H c) (T.cells v) ((cs.drop (i.toNat * T.sz)).take T.sz) := by
      have h1 := (hcs.drop (0 + i.toNat * T.sz)).take T.sz
      have h2 : ((arrT n T hn).cells xs) = flat T.toTy xs.1 := rfl
      rw [h2, at_flat0 T.toTy hx] at h1
      rwa [Nat.zero_add] at h1
    refine ⟨_, ?_, T.inn hc⟩
    simp only [execOp, hv, hi]
    refine run_value ?_
    unfold Instr.index
    simp only [asIntOf, Sem.run_bind, Sem.run_pure, Result.andThen_ok, run_underlying' ht.h]
    rw [if_pos (by omega)]
    simp only [Sem.run_bind, run_sizeOf (t := e) (n := T.sz), Result.andThen_ok]
    unfold part
    refine (run_bind (isAgg e) _ w (run_isAgg (t := e) (b := T.ag))).trans ?_
    generalize i.toNat * T.sz = q at hc ⊢
    cases hag : T.ag with
    | true =>
      simp only [if_true]
      refine (run_bind (sizeOf e) _ w (run_sizeOf (t := e) (n := T.sz))).trans ?_
      show Result.ok (Value.agg (cs.toArray.extract q (q + T.sz))) w = _
      simp [List.extract_eq_take_drop]
    | false =>
      simp only [Bool.false_eq_true, if_false]
      have h1 := T.one hag
      have hl := hc.length
      have hl2 := T.len v
      rw [hl2] at hl
      rw [h1] at hl ⊢
      rw [List.length_take, List.length_drop] at hl
      have hq : q < cs.length := by omega
      have e1 : ((cs.drop q).take 1).headD undef = cs[q] := by rw [List.drop_eq_getElem_cons hq]; rfl
      rw [e1]
      simp [hq]
end
end Go.Proofs.YtljdjagackdplaaDoor.L
