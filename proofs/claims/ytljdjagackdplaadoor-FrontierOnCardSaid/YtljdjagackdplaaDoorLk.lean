/-
  Rules of the logic: append as a step, made rows, bytes and texts, copies, equality of arrays.
-/
import Derived.Test.YtljdjagackdplaaDoorLj
import Derived.ChangeKeysEq
set_option linter.unusedVariables false
set_option linter.unusedSimpArgs false
namespace Go.Proofs.YtljdjagackdplaaDoor.L
open Go
set_option linter.unusedSectionVars false
variable [Globs]

section
variable {C : Cx} {Γ : Env} {Δ Δ' : List Res} {ops : Array Oper} {rest : List Oper} {Q : Exit → Act → World → Prop} {ty : Nat} {pos : String} {af : Array Edge} {α : Type}
/-- What is behind an append. -/
theorem St.append {T : Td α} {e d : Nat} {v v' : Value} {xs zs : List α} {H : IH} {a : Act} {w w' : World} (S : St C Γ Δ H a w) (hp : Δ.Perm (row v e T.toTy xs :: Δ')) (hd : d < C.n) (h : Apd C.P T e v xs zs H w v' w') : St C ((d, is v') :: Γ) (row v' e T.toTy zs :: Δ') H (a.put (some d) v') w' := by
  cases h with
  | «at» hb hk hs h1 h2 h3 hc ok =>
    cases hbb : (row v e T.toTy xs).blk with
    | none =>
      have E : Ext H w H w' := ⟨IH.le_refl _, fun _ _ _ => rfl, ⟨S.sat.gk, fun b o u hu => (World.cell?_of_block (w := w) (a := ⟨b, o, none⟩) (hk b (by rw [hbb]; simp))).trans (S.sat.cell b o u hu)⟩, ⟨h1, h2, h3, by omega, fun k hkk _ => hk k (by rw [hbb]; simp)⟩⟩
      have S1 := (S.lose hp).put E d hd v' (is v') rfl
      exact S1.gain ok (fun b hb' => by rw [hb, hbb] at hb'; cases hb')
    | some b =>
      have S1 : St C Γ (row v' e T.toTy zs :: Δ') H a w' := St.write (r := row v e T.toTy xs) (b := b) S hp hbb (hb.trans hbb) ⟨S.sat.gk, fun b2 o2 u hu => by
        have hne : b2 ≠ b := fun he => by subst he; rw [hc b2 hbb] at hu; cases hu
        exact (World.cell?_of_block (w := w) (a := ⟨b2, o2, none⟩) (hk b2 (by rw [hbb]; simpa using fun h => hne h.symm))).trans (S.sat.cell b2 o2 u hu)⟩ ok (fun k hkb => hk k (by rw [hbb]; simpa using fun h => hkb h.symm)) hs h1 h2 h3
      exact S1.put (Ext.refl S1.sat) d hd v' (is v') rfl
  | new hb E hs ok =>
    have S1 := (S.lose hp).put E d hd v' (is v') rfl
    refine S1.gain ok (fun b hb' => ?_)
    rw [hb] at hb'
    injection hb' with hb'; subst hb'
    exact ⟨by omega, .inr S.fr.size, fun hm => absurd ((S.lose hp).own _ hm).1 (Nat.lt_irrefl _)⟩
/-- Where the elements come from. -/
inductive From (Γ : Env) (Δ : List Res) (P : Program) (T : Td α) (u : Nat) (y : Operand) (ys : List α) : Prop
  | mk (h : ∀ (H : IH) (w : World) (ρ : Operand → Value), Sat H w → (∀ r ∈ Δ, r.ok H w) → (∀ ψ, opd Γ y = some ψ → ψ.h H (ρ y)) → Src P H w u (ρ y) T.sz ys.length (flat T.toTy ys))
theorem From.sl {P : Program} {T : Td α} {u e : Nat} {y : Operand} {ys : List α} [TSl P u e] (h : opd Γ y = some (L.sl T.toTy ys)) : From Γ Δ P T u y ys := ⟨fun H w ρ hs _ hx => src_sl hs (hx _ h)⟩
theorem From.str {P : Program} {u : Nat} {y : Operand} {s : List UInt8} [TStr P u] (h : opd Γ y = some (is (L.str s))) : From Γ Δ P u8T u y s := ⟨fun H w ρ hs _ hx => by
  have hv : ρ y = L.str s := hx _ h
  rw [hv]; exact src_str⟩
theorem From.row {P : Program} {T : Td α} {u e e' : Nat} {y : Operand} {v : Value} {ys : List α} [TSl P u e] (h : opd Γ y = some (is v)) (hm : L.row v e' T.toTy ys ∈ Δ) : From Γ Δ P T u y ys := ⟨fun H w ρ hs hr hx => by
  have hv : ρ y = v := hx _ h
  rw [hv]; exact src_row (hr _ hm)⟩
theorem row_slice {T : Ty α} {v : Value} {e : Nat} {xs : List α} {H : IH} {w : World} (h : (L.row v e T xs).ok H w) : ∃ A c, v = .slice A xs.length c := by
  rcases h with ⟨rfl, rfl⟩ | ⟨b, o, cap, cs, rfl, _⟩
  · exact ⟨none, 0, rfl⟩
  · exact ⟨_, _, rfl⟩
theorem Lq.append {T : Td α} {d t u e by_ : Nat} {z v : Value} {xs ys : List α} {s y : Operand} (h : opd Γ s = some (is v)) (hp : Δ.Perm (row v e T.toTy xs :: Δ')) (hf : From Γ Δ C.P T u y ys) (hd : Nat.blt d C.n = true) [TSl C.P t e] [TSz C.P e T.sz] [TBy C.P e by_] [TZero C.P e z] (hz : z.cells.size = T.sz) (hz1 : z.cells.toList.all (fun c => c.oneCell') = true)
    (hm : xs.length + ys.length ≤ maxLen) (hby : (xs.length + ys.length) * by_ ≤ 140737488355328) (k : ∀ A c, Lq C ((d, is (.slice A (xs ++ ys).length c)) :: Γ) (row (.slice A (xs ++ ys).length c) e T.toTy (xs ++ ys) :: Δ') ops rest Q) : Lq C Γ Δ ops (⟨some d, .call ⟨.builtin .append, #[s, y], #[t, u]⟩, ty, pos, af, none⟩ :: rest) Q := by
  intro H a w S
  refine wpL_plain rfl (fun c hc => by cases hc) fun K hK => ?_
  have hv : a.eval s = v := S.opd h
  cases hf with
  | mk hf =>
    have hsrc := hf H w a.eval S.sat S.res (fun ψ hψ => S.opd hψ)
    obtain ⟨v', w', hrun, hA⟩ := run_append (P := C.P) (t := t) (ty := ty) (T := T) (e := e) hz hz1 S.sat (S.res _ (hp.mem_iff.2 List.mem_cons_self)) hsrc hm hby
    have hexec : (execOp a.eval ⟨some d, .call ⟨.builtin .append, #[s, y], #[t, u]⟩, ty, pos, af, none⟩).run C.P w = .ok (.value v') w' :=
      run_builtin (as := [s, y]) fun c => run_value (x := Builtin.append_ #[t, u] ty #[a.eval s, a.eval y]) (by rw [hv]; exact hrun)
    unfold Oper.wp
    rw [hexec]
    have hok : (row v' e T.toTy (xs ++ ys)).ok H w' := by
      cases hA with
      | «at» _ _ _ _ _ _ _ ok => exact ok
      | new _ _ _ ok => exact ok
    obtain ⟨A, c, rfl⟩ := row_slice hok
    exact hK _ _ (k A c H _ w' (S.append hp (blt hd) hA))
variable {P : Program} {g : Option (Nat × Bool)} {d : Option Nat} {x : Operand}
/-- A copy made by an append to nothing. -/
theorem opR_append {T : Td α} {t u e by_ : Nat} {z : Value} {ys : List α} {s y : Operand} (h : opd Γ s = some (is (.slice none 0 0))) (hf : From Γ Δ P T u y ys) [TSl P t e] [TSz P e T.sz] [TBy P e by_] [TZero P e z] (hz : z.cells.size = T.sz) (hz1 : z.cells.toList.all (fun c => c.oneCell') = true)
    (hm : ys.length ≤ maxLen) (hby : ys.length * by_ ≤ 140737488355328) : OpR P Γ Δ ⟨d, .call ⟨.builtin .append, #[s, y], #[t, u]⟩, ty, pos, af, none⟩ (fun v => row v e T.toTy ys) := by
  intro H a w Q K hx hs hr hb hK
  have hv : a.eval s = .slice none 0 0 := hx s (by simp [Op.operands, Call.operands]) _ h
  cases hf with
  | mk hf =>
    have hsrc := hf H w a.eval hs hr (fun ψ hψ => hx y (by simp [Op.operands, Call.operands]) ψ hψ)
    obtain ⟨v', w', hrun, hA⟩ := run_append (P := P) (t := t) (ty := ty) (T := T) (e := e) (xs := []) hz hz1 hs row_nil hsrc (by simpa using hm) (by simpa using hby)
    have hexec : (execOp a.eval ⟨d, .call ⟨.builtin .append, #[s, y], #[t, u]⟩, ty, pos, af, none⟩).run P w = .ok (.value v') w' :=
      run_builtin (as := [s, y]) fun c => run_value (x := Builtin.append_ #[t, u] ty #[a.eval s, a.eval y]) (by rw [hv]; exact hrun)
    unfold Oper.wp
    rw [hexec]
    cases hA with
    | «at» hbb hk hsz h1 h2 h3 hc ok =>
      refine hK v' H w' ⟨IH.le_refl _, fun _ _ _ => rfl, ⟨hs.gk, fun b o u hu => (World.cell?_of_block (w := w) (a := ⟨b, o, none⟩) (hk b (by intro h; cases h))).trans (hs.cell b o u hu)⟩, ⟨h1, h2, h3, by omega, fun k hkk _ => hk k (by intro h; cases h)⟩⟩ ok (fun b hb' => ?_)
      have : (row v' e T.toTy ys).blk = none := hbb
      rw [this] at hb'; cases hb'
    | new hbb E hsz ok =>
      refine hK v' H w' E ok (fun b hb' => ?_)
      have hbb : (row v' e T.toTy ys).blk = some w.heap.size := hbb
      rw [hbb] at hb'
      injection hb' with hb'; subst hb'
      exact ⟨Nat.le_refl _, by omega⟩

/-! ### Bytes and texts -/
theorem op_rowlen {T : Ty α} {v : Value} {e e' t : Nat} {xs : List α} (h : opd Γ x = some (is v)) (hm : row v e T xs ∈ Δ) [ht : TSl P t e'] : OpP P Γ Δ ⟨d, .call ⟨.builtin .len, #[x], #[t]⟩, ty, pos, af, g⟩ (is (.int .i64 (xs.length : Int))) :=
  OpP.val fun H a w hx hs hr => by
    have hv : a.eval x = v := hx x (by simp [Op.operands, Call.operands]) _ h
    refine ⟨_, H, w, run_builtin (as := [x]) fun c => ?_, Ext.refl hs, rfl⟩
    refine run_value (x := Builtin.len_ #[t] ty #[a.eval x]) ?_
    rw [hv]
    rcases hr _ hm with ⟨rfl, rfl⟩ | ⟨b, o, cap, cs, rfl, _⟩
    · exact (run_bind (underlying t) _ w (run_underlying' ht.h)).trans rfl
    · exact (run_bind (underlying t) _ w (run_underlying' ht.h)).trans rfl
theorem run_toStr {src dst e : Nat} {v : Value} {l : List UInt8} {w : World} {H : IH} [h1 : TSl P src e] [h2 : TInt P e .u8] [h3 : TStr P dst] (h : ∃ a cap, v = .slice a l.length cap ∧ (0 < l.length → ∃ b o, a = some ⟨b, o, none⟩ ∧ ∀ j c, (flat u8T.toTy l)[j]? = some c → ∃ u, w.cell? ⟨b, o + j, none⟩ = some u ∧ c.h H u)) :
    (convert src dst v).run P w = .ok (str l) w := by
  obtain ⟨a, cap, rfl, hc⟩ := h
  by_cases h0 : l = []
  · subst h0
    cases a with
    | none =>
      refine (run_convert_bytes_string w src dst e none 0 cap h1.h h2.h h3.h).trans ?_
      rfl
    | some a =>
      have := run_convert_bytes_back (P := P) w src dst e a cap [] h1.h h2.h h3.h (fun j hj => by simp at hj)
      exact this
  · obtain ⟨b, o, rfl, hcell⟩ := hc (List.length_pos_iff.2 h0)
    refine run_convert_bytes_back (P := P) w src dst e ⟨b, o, none⟩ cap l h1.h h2.h h3.h (fun j hj => ?_)
    have hf := flat_get u8T.toTy l j 0 l[j] (List.getElem?_eq_getElem hj) (by decide)
    have hf : (flat u8T.toTy l)[j * 1 + 0]? = some (is (.int .u8 (l[j].toNat : Int))) := hf
    rw [Nat.mul_one, Nat.add_zero] at hf
    obtain ⟨u, hu, hcu⟩ := hcell j (is (.int .u8 (l[j].toNat : Int))) hf
    rw [add_at, hu]
    exact congrArg some hcu
theorem op_str_sl {l : List UInt8} {src dst e : Nat} [h1 : TSl P src e] [h2 : TInt P e .u8] [h3 : TStr P dst] (h : opd Γ x = some (sl u8T.toTy l)) : OpP P Γ Δ ⟨d, .convert src dst x, ty, pos, af, g⟩ (is (str l)) :=
  OpP.same fun H a w hx hs => by
    obtain ⟨ad, cap, hv, _, _, _, hc⟩ := hx x (by simp [Op.operands]) _ h
    refine ⟨_, ?_, rfl⟩
    simp only [execOp, hv]
    refine run_value (run_toStr (H := H) (e := e) ⟨ad, cap, rfl, fun h0 => ?_⟩)
    obtain ⟨b, o, ha, hcell⟩ := hc h0
    exact ⟨b, o, ha, fun j c hj => by obtain ⟨u, hu, hcu⟩ := hcell j c hj; exact ⟨u, hs.cell _ _ _ hu, hcu.1⟩⟩
theorem op_str_own {l : List UInt8} {b o cap e' src dst e : Nat} {φs : List Pr} [h1 : TSl P src e] [h2 : TInt P e .u8] [h3 : TStr P dst] (h : opd Γ x = some (is (.slice (some ⟨b, o, none⟩) l.length cap))) (hm : own b e' φs ∈ Δ) (hl : (φs.drop o).take l.length = flat u8T.toTy l) : OpP P Γ Δ ⟨d, .convert src dst x, ty, pos, af, g⟩ (is (str l)) :=
  OpP.val fun H a w hx hs hr => by
    have hv : a.eval x = .slice (some ⟨b, o, none⟩) l.length cap := hx x (by simp [Op.operands]) _ h
    obtain ⟨cs, hh, hcs⟩ := own_cells (hr _ hm)
    refine ⟨_, H, w, ?_, Ext.refl hs, rfl⟩
    simp only [execOp, hv]
    refine run_value (run_toStr (H := H) (e := e) ⟨_, cap, rfl, fun h0 => ⟨b, o, rfl, fun j c hj => ?_⟩⟩)
    have hcs2 := (hcs.drop o).take l.length
    rw [hl] at hcs2
    obtain ⟨u, hu, hcu⟩ := hcs2.get j c hj
    rw [List.getElem?_take] at hu
    split at hu
    · rw [List.getElem?_drop] at hu
      exact ⟨u, by rw [cell_at hh]; exact hu, hcu.1⟩
    · cases hu

/-! ### Made rows -/
theorem madeOne {z : Value} {c : Value} {T : Td α} {z0 : α} (h1 : T.sz = 1) (hz : z.cells = #[c]) (hc : T.cells z0 = [is c]) (n : Nat) : (madeCells z.cells n).toList = List.replicate n c ∧ flat T.toTy (List.replicate n z0) = List.replicate n (is c) := by
  constructor
  · rw [hz]
    apply List.ext_getElem
    · simp [madeCells]
    · intro i h1 h2
      simp [madeCells, Nat.mod_one]
  · unfold flat
    rw [List.map_replicate, hc]
    induction n with
    | zero => rfl
    | succ n ih => rw [List.replicate_succ, List.flatten_cons, ih, List.replicate_succ]; rfl
theorem run_makeN {t e by_ : Nat} {z : Value} {n : Nat} {k k2 : IntKind} {w : World} [ht : TSl P t e] [h1 : TSz P e 1] [h2 : TBy P e by_] [h3 : TZero P e z] (hb : by_ * n ≤ 281474976710656) (hn : n ≤ maxLen) :
    (Instr.makeSlice t (.int k (n : Int)) (.int k2 (n : Int))).run P w = .ok (.slice (some ⟨w.heap.size, 0, none⟩) n n) (w.alloc (.cells (madeCells z.cells n) e)) := by
  obtain ⟨i, hi, hsz⟩ := Option.map_eq_some_iff.1 h1.h
  obtain ⟨i', hi', hbz⟩ := Option.map_eq_some_iff.1 h2.h
  obtain ⟨i'', hi'', hzz⟩ := Option.map_eq_some_iff.1 h3.h
  obtain rfl : i = i' := Option.some.inj (hi.symm.trans hi')
  obtain rfl : i = i'' := Option.some.inj (hi.symm.trans hi'')
  have h63 : (n : Int) ≤ 9223372036854775807 := by unfold maxLen at hn; omega
  have hb' : (i.bytes : Int) * (n : Int) ≤ 281474976710656 := by
    rw [hbz]
    have h : ((by_ * n : Nat) : Int) ≤ 281474976710656 := by omega
    rwa [Int.natCast_mul] at h
  have := run_make (P := P) w t e i z ht.h hi hzz k k2 (n : Int) (n : Int) (by omega) (Int.le_refl _) hb' h63
  rw [hsz] at this
  simpa using this
theorem Lq.make {T : Td α} {z0 : α} {d t e by_ n : Nat} {z c : Value} {k k2 : IntKind} {x y : Operand} (hd : Nat.blt d C.n = true) (h : opd Γ x = some (is (.int k (n : Int)))) (h' : opd Γ y = some (is (.int k2 (n : Int)))) [TSl C.P t e] [TSz C.P e 1] [TBy C.P e by_] [TZero C.P e z] (hs : T.sz = 1) (hz : z.cells = #[c]) (hc : T.cells z0 = [is c]) (h1 : c.oneCell' = true) (hb : by_ * n ≤ 281474976710656) (hn : n ≤ maxLen)
    (k' : ∀ b, Lq C ((d, is (.slice (some ⟨b, 0, none⟩) n n)) :: Γ) (own b e (flat T.toTy (List.replicate n z0)) :: Δ) ops rest Q) : Lq C Γ Δ ops (⟨some d, .makeSlice t x y, ty, pos, af, none⟩ :: rest) Q := by
  intro H a w S
  refine wpL_plain rfl (fun c hc => by cases hc) fun K hK => ?_
  have hv : a.eval x = .int k (n : Int) := S.opd h
  have hv' : a.eval y = .int k2 (n : Int) := S.opd h'
  have hrun : (execOp a.eval ⟨some d, .makeSlice t x y, ty, pos, af, none⟩).run C.P w = .ok (.value (.slice (some ⟨w.heap.size, 0, none⟩) n n)) (w.alloc (.cells (madeCells z.cells n) e)) := by
    simp only [execOp, hv, hv']
    exact run_value (run_makeN hb hn)
  obtain ⟨m1, m2⟩ := madeOne hs hz hc n
  unfold Oper.wp
  rw [hrun]
  have S1 := S.put (ext_alloc S.sat (.cells (madeCells z.cells n) e)) d (blt hd) (.slice (some ⟨w.heap.size, 0, none⟩) n n) (is (.slice (some ⟨w.heap.size, 0, none⟩) n n)) rfl
  refine hK _ _ (k' w.heap.size H _ _ (S1.gain ⟨⟨List.replicate n c, ?_, ?_⟩, fun o => ?_⟩ (fun b hb' => ?_)))
  · rw [← m1, Array.toArray_toList]
    exact heap_alloc_self w _
  · rw [m2]
    refine All2.of_get (by simp) fun i φ u hi hu => ?_
    rw [List.getElem?_replicate] at hi hu
    split at hi
    · rename_i hin
      rw [if_pos hin] at hu
      injection hi with hi; injection hu with hu; subst hi; subst hu
      exact ⟨rfl, h1⟩
    · cases hi
  · cases hH : H w.heap.size o with
    | none => rfl
    | some u => exact absurd (S.sat.lt hH) (Nat.lt_irrefl _)
  · have hb' : some w.heap.size = some b := hb'
    injection hb' with hb'; subst hb'
    exact ⟨by simp, .inr S.fr.size, fun hm => absurd (S.own _ hm).1 (Nat.lt_irrefl _)⟩
/-- A made row that is never written. -/
theorem op_make {T : Td α} {z0 : α} {t e by_ n : Nat} {z c : Value} {k k2 : IntKind} {x y : Operand} (h : opd Γ x = some (is (.int k (n : Int)))) (h' : opd Γ y = some (is (.int k2 (n : Int)))) [TSl P t e] [TSz P e 1] [TBy P e by_] [TZero P e z] (hs : T.sz = 1) (hz : z.cells = #[c]) (hc : T.cells z0 = [is c]) (h1 : c.oneCell' = true) (hb : by_ * n ≤ 281474976710656) (hn : n ≤ maxLen) :
    OpP P Γ Δ ⟨d, .makeSlice t x y, ty, pos, af, g⟩ (sl T.toTy (List.replicate n z0)) :=
  OpP.val fun H a w hx hsat _ => by
    have hv : a.eval x = .int k (n : Int) := hx x (by simp [Op.operands]) _ h
    have hv' : a.eval y = .int k2 (n : Int) := hx y (by simp [Op.operands]) _ h'
    obtain ⟨m1, m2⟩ := madeOne hs hz hc n
    have E := ext_new hsat (madeCells z.cells n).toList e
    refine ⟨.slice (some ⟨w.heap.size, 0, none⟩) n n, _, _, ?_, E, ?_⟩
    · simp only [execOp, hv, hv']
      refine run_value ?_
      rw [Array.toArray_toList]
      exact run_makeN hb hn
    · have hcs : All2 (fun φ c => φ.c H c) (flat T.toTy (List.replicate n z0)) (madeCells z.cells n).toList := by
        rw [m1, m2]
        refine All2.of_get (by simp) fun i φ u hi hu => ?_
        rw [List.getElem?_replicate] at hi hu
        split at hi
        · rename_i hin
          rw [if_pos hin] at hu
          injection hi with hi; injection hu with hu; subst hi; subst hu
          exact ⟨rfl, h1⟩
        · cases hi
      have := sl_new T.toTy (w := w) (List.replicate n z0) hcs E.le (by simpa using hn)
      simpa using this

/-! ### Copies -/
theorem src_own {T : Td α} {ys : List α} {H : IH} {w : World} {u e e' b o cap : Nat} {φs : List Pr} [hu : TSl P u e] (h : (own b e' φs).ok H w) (hl : (φs.drop o).take (ys.length * T.sz) = flat T.toTy ys) : Src P H w u (.slice (some ⟨b, o, none⟩) ys.length cap) T.sz ys.length (flat T.toTy ys) := by
  obtain ⟨cs, hh, hcs⟩ := own_cells h
  have h5 := (hcs.drop o).take (ys.length * T.sz)
  rw [hl] at h5
  have hlen : ((cs.drop o).take (ys.length * T.sz)).length = ys.length * T.sz := by rw [← h5.length, flat_len]
  refine ⟨⟨_, hu.h, fun k h => by cases h⟩, fun w => rfl, _, hlen, h5, fun w' hw => ?_⟩
  show (loadCells ⟨b, o, none⟩ (ys.length * T.sz)).run P w' = _
  conv => lhs; rw [← hlen]
  refine run_loadCells_list w' ⟨b, o, none⟩ _ fun j v hj => ?_
  rw [add_at, cell_heap hw, cell_at hh]
  rw [List.getElem?_take] at hj
  split at hj
  · rwa [List.getElem?_drop] at hj
  · cases hj
theorem From.own {T : Td α} {u e e' b o cap : Nat} {φs : List Pr} {y : Operand} {ys : List α} [TSl P u e] (h : opd Γ y = some (is (.slice (some ⟨b, o, none⟩) ys.length cap))) (hm : L.own b e' φs ∈ Δ) (hl : (φs.drop o).take (ys.length * T.sz) = flat T.toTy ys) : From Γ Δ P T u y ys := ⟨fun H w ρ hs hr hx => by
  have hv := hx _ h
  have hv : ρ y = .slice (some ⟨b, o, none⟩) ys.length cap := hv
  rw [hv]; exact src_own (hr _ hm) hl⟩
theorem Lq.copy {T : Td α} {d t u e e' b o n cap : Nat} {φs φs' : List Pr} {ys : List α} {s y : Operand} (h : opd Γ s = some (is (.slice (some ⟨b, o, none⟩) n cap))) (hp : Δ.Perm (L.own b e' φs :: Δ')) (hf : From Γ Δ C.P T u y ys) (hd : Nat.blt d C.n = true) [TSl C.P t e] [TSz C.P e T.sz] (hn : ys.length ≤ n)
    (hfit : o + ys.length * T.sz ≤ φs.length) (he : splice φs o (flat T.toTy ys) = φs') (k : Lq C ((d, is (.int .i64 (ys.length : Int))) :: Γ) (L.own b e' φs' :: Δ') ops rest Q) : Lq C Γ Δ ops (⟨some d, .call ⟨.builtin .copy, #[s, y], #[t, u]⟩, ty, pos, af, none⟩ :: rest) Q := by
  subst he
  intro H a w S
  refine wpL_plain rfl (fun c hc => by cases hc) fun K hK => ?_
  have hv : a.eval s = .slice (some ⟨b, o, none⟩) n cap := S.opd h
  cases hf with
  | mk hf =>
    obtain ⟨⟨du, hu, hnu⟩, hlen, news, hnl, hn2, hcells⟩ := hf H w a.eval S.sat S.res (fun ψ hψ => S.opd hψ)
    obtain ⟨⟨cs, hh, hcs⟩, hnone⟩ := S.res _ (hp.mem_iff.2 List.mem_cons_self)
    have hclen := hcs.length
    obtain ⟨w', hrun, hb', hk', hs', e1, e2, e3⟩ := run_storeCells (P := C.P) (b := b) (o := o) (e := e') news 0 w cs hh (by rw [hnl]; omega) (fun v hv => by
      obtain ⟨j, hj, rfl⟩ := List.mem_iff_getElem.1 hv
      have hj2 : j < (flat T.toTy ys).length := by rw [hn2.length]; exact hj
      obtain ⟨c', hc', hφ⟩ := hn2.get j _ (List.getElem?_eq_getElem hj2)
      rw [List.getElem?_eq_getElem hj] at hc'
      injection hc' with hc'; rw [hc']; exact hφ.2)
    have hcopy : (Builtin.copy_ #[t, u] ty #[.slice (some ⟨b, o, none⟩) n cap, a.eval y]).run C.P w = .ok (.int .i64 (ys.length : Int)) w' := by
      have ht : C.P.underlying t = some (.slice e) := (inferInstance : TSl C.P t e).h
      have hmin : Nat.min ys.length n = ys.length := Nat.min_eq_left hn
      simp [Builtin.copy_, run_underlying ht, hlen, hmin, run_sizeOf (P := C.P) (t := e) (n := T.sz), hcells w rfl, hrun, goInt]
    have hexec : (execOp a.eval ⟨some d, .call ⟨.builtin .copy, #[s, y], #[t, u]⟩, ty, pos, af, none⟩).run C.P w = .ok (.value (.int .i64 (ys.length : Int))) w' :=
      run_builtin (as := [s, y]) fun c => run_value (x := Builtin.copy_ #[t, u] ty #[a.eval s, a.eval y]) (by rw [hv]; exact hcopy)
    unfold Oper.wp
    rw [hexec]
    have S' : St C Γ (L.own b e' (splice φs o (flat T.toTy ys)) :: Δ') H a w' := by
      refine St.write (r := L.own b e' φs) (b := b) S hp rfl rfl ⟨S.sat.gk, fun b2 o2 v2 hv2 => ?_⟩ ⟨⟨_, hb', ?_⟩, hnone⟩ hk' hs' e1 e2 e3
      · have hne : b2 ≠ b := fun e => by subst e; rw [hnone] at hv2; cases hv2
        exact (World.cell?_of_block (w := w) (a := ⟨b2, o2, none⟩) (hk' b2 hne)).trans (S.sat.cell b2 o2 v2 hv2)
      · unfold splice
        simp only [Nat.add_zero]
        rw [flat_len, ← hnl]
        exact ((hcs.take o).append hn2).append (hcs.drop (o + news.length))
    exact hK _ _ (k H _ _ (S'.put (Ext.refl S'.sat) d (blt hd) _ _ rfl))

/-! ### Equality of arrays -/
theorem run_part {T : Td α} {e q : Nat} {v : α} {cs : List Value} {H : IH} {w : World} [TSz P e T.sz] [TAg P e T.ag] (hc : All2 (fun φ c => φ.c H c) (T.cells v) ((cs.drop q).take T.sz)) : ∃ u, (part e cs.toArray q).run P w = .ok u w ∧ (T.val v).h H u := by
  refine ⟨_, ?_, T.inn hc⟩
  unfold part
  refine (run_bind (isAgg e) _ w (run_isAgg (t := e) (b := T.ag))).trans ?_
  cases hag : T.ag with
  | true =>
    simp only [if_true]
    refine (run_bind (sizeOf e) _ w (run_sizeOf (t := e) (n := T.sz))).trans ?_
    show Result.ok (Value.agg (cs.toArray.extract q (q + T.sz))) w = _
    simp [List.extract_eq_take_drop]
  | false =>
    simp only [Bool.false_eq_true, if_false]
    have h1 := T.one hag
    have hl := hc.length
    have hl2 := T.len v
    rw [hl2] at hl
    rw [h1] at hl ⊢
    rw [List.length_take, List.length_drop] at hl
    have hq : q < cs.length := by omega
    have e1 : ((cs.drop q).take 1).headD undef = cs[q] := by rw [List.drop_eq_getElem_cons hq]; rfl
    rw [e1]
    simp [hq]
/-- Values of a type that == compares. -/
structure Eqd (P : Program) (t : Nat) (T : Td α) [DecidableEq α] (m : Nat) : Prop where
  eq : ∀ {H : IH} {x y : α} {u v : Value} {w : World} (d : Nat), m ≤ d → (T.val x).h H u → (T.val y).h H v → (Op.equalIn d t u v).run P w = .ok (decide (x = y)) w
theorem eqd_u8 {t : Nat} [h : TInt P t .u8] : Eqd P t u8T 1 := ⟨fun {H x y u v w} d hd hu hv => by
  obtain ⟨d, rfl⟩ : ∃ k, d = k + 1 := ⟨d - 1, by omega⟩
  have hu : u = .int .u8 (x.toNat : Int) := hu
  have hv : v = .int .u8 (y.toNat : Int) := hv
  subst hu; subst hv
  refine (run_equalIn_int (P := P) w d t .u8 .u8 _ _ h.h).trans ?_
  congr 1
  rw [Bool.eq_iff_iff, beq_iff_eq, decide_eq_true_iff]
  constructor
  · intro h; exact UInt8.toNat_inj.1 (by omega)
  · intro h; rw [h]⟩
theorem eqd_items [DecidableEq α] {T : Td α} {e m c : Nat} (he : Eqd P e T m) [TSz P e T.sz] [TAg P e T.ag] (hc : c = T.sz) {H : IH} {w : World} {xs ys : List α} {cx cy : List Value} (hx : All2 (fun φ c => φ.c H c) (flat T.toTy xs) cx) (hy : All2 (fun φ c => φ.c H c) (flat T.toTy ys) cy) {d : Nat} (hd : m ≤ d) :
    ∀ (n k : Nat), k + n = xs.length → xs.length = ys.length → (Op.eqItems d e c cx.toArray cy.toArray (List.range' k n)).run P w = .ok (decide (xs.drop k = ys.drop k)) w
  | 0, k, h, hl => by
    rw [List.drop_eq_nil_of_le (by omega), List.drop_eq_nil_of_le (by omega)]
    simp [Op.eqItems]
  | n + 1, k, h, hl => by
    have hkx : k < xs.length := by omega
    have hky : k < ys.length := by omega
    have seg : ∀ {zs : List α} {cz : List Value} (hz : All2 (fun φ c => φ.c H c) (flat T.toTy zs) cz) (hk : k < zs.length), All2 (fun φ c => φ.c H c) (T.cells zs[k]) ((cz.drop (k * T.sz)).take T.sz) := by
      intro zs cz hz hk
      have h1 := (hz.drop (0 + k * T.sz)).take T.sz
      rw [at_flat0 T.toTy (List.getElem?_eq_getElem hk)] at h1
      rwa [Nat.zero_add] at h1
    obtain ⟨u, hu, hu'⟩ := run_part (P := P) (T := T) (e := e) (w := w) (seg hx hkx)
    obtain ⟨v, hv, hv'⟩ := run_part (P := P) (T := T) (e := e) (w := w) (seg hy hky)
    have heq := he.eq (w := w) d hd hu' hv'
    subst hc
    rw [List.range'_succ]
    simp only [Op.eqItems, Sem.run_bind, hu, hv, heq, Result.andThen_ok]
    rw [List.drop_eq_getElem_cons hkx, List.drop_eq_getElem_cons hky]
    by_cases hxy : xs[k] = ys[k]
    · rw [decide_eq_true hxy]
      simp only [Bool.not_true, Bool.false_eq_true, if_false]
      rw [eqd_items he rfl hx hy hd n (k + 1) (by omega) hl]
      refine congrArg (fun b => Result.ok b w) (decide_eq_decide.2 ?_)
      rw [List.cons.injEq]
      simp only [hxy, true_and]
    · rw [decide_eq_false hxy]
      simp only [Bool.not_false, if_true]
      have : decide (xs[k] :: xs.drop (k + 1) = ys[k] :: ys.drop (k + 1)) = false := decide_eq_false (by rw [List.cons.injEq]; exact fun h => hxy h.1)
      rw [this]; rfl
instance {α : Type} [DecidableEq α] {n : Nat} : DecidableEq (Arr α n) := inferInstance
theorem eqd_arr [DecidableEq α] {T : Td α} {t e m n : Nat} {hn : 0 < n} [ht : TArr P t n e] [h1 : TSz P e T.sz] [TAg P e T.ag] (he : Eqd P e T m) : Eqd P t (arrT n T hn) (m + 1) := ⟨fun {H x y u v w} d hd hu hv => by
  obtain ⟨d, rfl⟩ : ∃ k, d = k + 1 := ⟨d - 1, by omega⟩
  obtain ⟨i, hi, hsz⟩ := Option.map_eq_some_iff.1 h1.h
  obtain ⟨cx, rfl, hcx⟩ := hu
  obtain ⟨cy, rfl, hcy⟩ := hv
  have hc : P.cellsOf e = T.sz := by simp [Program.cellsOf, hi, hsz]
  refine (run_equalIn_array (P := P) w d cx.toArray cy.toArray ht.h hi).trans ?_
  rw [List.range_eq_range']
  refine (eqd_items he hc hcx hcy (show m ≤ d by omega) n 0 (by rw [x.2]; omega) (by rw [x.2, y.2])).trans ?_
  congr 1
  simp [Subtype.ext_iff]⟩
class TNg (P : Program) (t : Nat) : Prop where h : P.eqGuardType P.depth t = false
theorem op_eqA {t yt m : Nat} [DecidableEq α] {T : Td α} (he : Eqd P t T m) (hag : T.ag = true) [hg : TNg P t] {u v : α} {x y : Operand} (hm : Nat.ble m 10000 = true) (h1 : opd Γ x = some (T.val u)) (h2 : opd Γ y = some (T.val v)) : OpP P Γ Δ ⟨d, .binOp .eql t x y yt, ty, pos, af, g⟩ (is (.bool (decide (u = v)))) :=
  OpP.same fun H a w hx hs => by
    have hu := hx x (by simp [Op.operands]) _ h1
    have hv := hx y (by simp [Op.operands]) _ h2
    have heq := he.eq (w := w) 10000 (Nat.le_of_ble_eq_true hm) hu hv
    have : ∃ cx cy, a.eval x = .agg cx ∧ a.eval y = .agg cy := by
      unfold Td.val at hu hv
      rw [hag] at hu hv
      obtain ⟨cx, hcx, _⟩ := hu
      obtain ⟨cy, hcy, _⟩ := hv
      exact ⟨_, _, hcx, hcy⟩
    obtain ⟨cx, cy, ex, ey⟩ := this
    rw [ex, ey] at heq
    refine ⟨_, ?_, rfl⟩
    simp only [execOp, ex, ey]
    refine run_value ?_
    refine (run_bind _ _ w (a := ()) (w' := w) ?_).trans ?_
    · unfold eqGuard
      simp [program, bind, Sem.bind, pure, Sem.run, hg.h]
    · exact (run_bind (Op.equal t (.agg cx) (.agg cy)) (fun r => pure (Value.bool r)) w heq).trans rfl
end
end Go.Proofs.YtljdjagackdplaaDoor.L
