/-
  Rules of the logic: append, made rows, bytes and texts, copies, equality of arrays.
-/
import Derived.Test.YtljdjagackdplaaDoorLi
set_option linter.unusedVariables false
set_option linter.unusedSimpArgs false
namespace Go.Proofs.YtljdjagackdplaaDoor.L
open Go
set_option linter.unusedSectionVars false
variable [Globs]

theorem zeroCells_one {z : Array Value} {n : Nat} (h : z.toList.all (fun c => c.oneCell') = true) : ∀ c ∈ (Builtin.zeroCells z n).toList, c.oneCell' = true := by
  intro c hc
  obtain ⟨i, hi, rfl⟩ := List.mem_iff_getElem.1 hc
  have hi2 : i < n * z.size := by simpa [Builtin.zeroCells] using hi
  have hzs : 0 < z.size := by
    rcases Nat.eq_zero_or_pos z.size with h0 | h0
    · rw [h0] at hi2; omega
    · exact h0
  have hlt : i % z.size < z.size := Nat.mod_lt _ hzs
  have e : (Builtin.zeroCells z n).toList[i] = z[i % z.size]'hlt := by
    simp [Builtin.zeroCells, getElem!_pos, hlt]
  rw [e]
  exact List.all_eq_true.1 h _ (by simp)
theorem notInt {d : TypeDesc} (h : ∀ k, d ≠ .int k) : (match d with | .int _ => true | _ => false) = false := by
  cases d <;> first | rfl | exact absurd rfl (h _)

section
variable {P : Program} {α : Type} {T : Td α} {t u e by_ : Nat} {z x v : Value} {xs ys : List α} {H : IH} {w : World} {ty : Nat}
/-- Both ways of an append. -/
inductive Apd (P : Program) (T : Td α) (e : Nat) (v : Value) (xs zs : List α) (H : IH) (w : World) (v' : Value) (w' : World) : Prop
  | at (hb : (row v' e T.toTy zs).blk = (row v e T.toTy xs).blk) (hk : ∀ k, (row v e T.toTy xs).blk ≠ some k → w'.heap[k]? = w.heap[k]?) (hs : w'.heap.size = w.heap.size) (h1 : w'.os = w.os) (h2 : w'.tape = w.tape) (h3 : w'.output = w.output)
      (hc : (∀ b, (row v e T.toTy xs).blk = some b → ∀ i, H b i = none)) (ok : (row v' e T.toTy zs).ok H w')
  | new (hb : (row v' e T.toTy zs).blk = some w.heap.size) (E : Ext H w H w') (hs : w'.heap.size = w.heap.size + 1) (ok : (row v' e T.toTy zs).ok H w')

theorem run_append [ht : TSl P t e] [h1 : TSz P e T.sz] [h2 : TBy P e by_] [h3 : TZero P e z] (hz : z.cells.size = T.sz) (hz1 : z.cells.toList.all (fun c => c.oneCell') = true) (hsat : Sat H w) (hr : (row v e T.toTy xs).ok H w) (hs : Src P H w u x T.sz ys.length (flat T.toTy ys))
    (hm : xs.length + ys.length ≤ maxLen) (hby : (xs.length + ys.length) * by_ ≤ 140737488355328) : ∃ v' w', (Builtin.append_ #[t, u] ty #[v, x]).run P w = .ok v' w' ∧ Apd P T e v xs (xs ++ ys) H w v' w' := by
  obtain ⟨i, hi, hsz⟩ := Option.map_eq_some_iff.1 h1.h
  obtain ⟨i', hi', hbz⟩ := Option.map_eq_some_iff.1 h2.h
  obtain ⟨i'', hi'', hzz⟩ := Option.map_eq_some_iff.1 h3.h
  obtain rfl : i = i' := Option.some.inj (hi.symm.trans hi')
  obtain rfl : i = i'' := Option.some.inj (hi.symm.trans hi'')
  obtain ⟨⟨du, hu, hnu⟩, hlen, news, hnl, hn, hcells⟩ := hs
  have hmi : ¬ (9223372036854775807 < (xs.length : Int) + (ys.length : Int)) := by unfold maxLen at hm; omega
  have hlf : (flat T.toTy (xs ++ ys)) = flat T.toTy xs ++ flat T.toTy ys := flat_app _ _ _
  have hnw : (Builtin.firstCells T.sz ys.length x).run P w = .ok news.toArray w := hcells w rfl
  have hnd : (Builtin.firstCells T.sz ys.length x).run P w.drew = .ok news.toArray w.drew := hcells w.drew rfl
  -- a new row
  have grown : ∀ (old : Nat) (olds : List Value), old < xs.length + ys.length → olds.length = xs.length * T.sz → All2 (fun φ c => φ.c H c) (flat T.toTy xs) olds →
      (row (.slice (some ⟨w.heap.size, 0, none⟩) (xs.length + ys.length) (grownCap w (xs.length + ys.length) old e)) e T.toTy (xs ++ ys)).ok H (w.drew.alloc (.cells (olds.toArray ++ news.toArray ++ Builtin.zeroCells z.cells (grownCap w (xs.length + ys.length) old e - (xs.length + ys.length))) e)) := by
    intro old olds ho hol hoa
    have hge := grownCap_ge w (xs.length + ys.length) old e
    have hcm := grownCap_le_maxLen w (xs.length + ys.length) old e hm
    have hmul : (xs.length + ys.length) * T.sz + (grownCap w (xs.length + ys.length) old e - (xs.length + ys.length)) * T.sz = grownCap w (xs.length + ys.length) old e * T.sz := by rw [← Nat.add_mul]; congr 1; omega
    refine .inr ⟨w.heap.size, 0, grownCap w (xs.length + ys.length) old e, olds ++ news ++ (Builtin.zeroCells z.cells (grownCap w (xs.length + ys.length) old e - (xs.length + ys.length))).toList, by simp, ?_, ?_, by simp; omega, hcm, ?_, ?_, ?_⟩
    · have := heap_alloc_self w.drew (.cells (olds.toArray ++ news.toArray ++ Builtin.zeroCells z.cells (grownCap w (xs.length + ys.length) old e - (xs.length + ys.length))) e)
      refine this.trans ?_
      congr 2
      apply Array.ext'
      simp [List.append_assoc]
    · simp only [List.length_append, Array.length_toList, size_zeroCells, hz, hol, hnl]
      rw [Nat.add_mul] at hmul
      omega
    · have hl : (olds ++ news).length = (xs ++ ys).length * T.sz := by rw [List.length_append, List.length_append, hol, hnl, Nat.add_mul]
      rw [List.drop_zero, ← hl, List.take_left, hlf]
      exact hoa.append hn
    · intro c hc
      have one_of : ∀ {ps : List Pr} {cs : List Value}, All2 (fun φ c => φ.c H c) ps cs → ∀ c ∈ cs, c.oneCell' = true := by
        intro ps cs hp c hc
        obtain ⟨j, hj, rfl⟩ := List.mem_iff_getElem.1 hc
        have hj2 : j < ps.length := by rw [hp.length]; exact hj
        obtain ⟨c', hc', hφ⟩ := hp.get j ps[j] (List.getElem?_eq_getElem hj2)
        rw [List.getElem?_eq_getElem hj] at hc'
        injection hc' with hc'; rw [hc']; exact hφ.2
      rcases List.mem_append.1 hc with hc | hc
      · rcases List.mem_append.1 hc with hc | hc
        · exact one_of hoa c hc
        · exact one_of hn c hc
      · exact zeroCells_one hz1 c hc
    · intro o
      cases hH : H w.heap.size o with
      | none => rfl
      | some u => exact absurd (hsat.lt hH) (Nat.lt_irrefl _)
  have ext : ∀ o : Obj, Ext H w H (w.drew.alloc o) := fun o => by
    have E := ext_alloc hsat o
    exact ⟨E.le, E.old, ⟨E.sat.gk, E.sat.cell⟩, ⟨E.fr.os, E.fr.tape, E.fr.output, E.fr.size, E.fr.block⟩⟩
  rcases hr with ⟨rfl, rfl⟩ | ⟨b, o, cap, cs, rfl, k1, k2, k3, k4, k5, k6, k7⟩
  · by_cases h0 : ys = []
    · subst h0
      refine ⟨.slice none 0 0, w, ?_, .at rfl (fun _ _ => rfl) rfl rfl rfl rfl (fun b hb => by cases hb) row_nil⟩
      simp only [List.length_nil] at hlen hnw
      simp [Builtin.append_, run_underlying ht.h, run_underlying hu, sizeOf, typeInfo, hi, hsz, hlen, notInt hnu, hnw]
    · have hp := List.length_pos_iff.2 h0
      have hcap : ¬ (281474976710656 < Builtin.nextslicecap ys.length 0 * i.bytes) := by
        have := growslice_fits (need := ys.length) (old := 0) (bytes := by_) hp (by simpa using hby)
        rw [hbz]; omega
      have hg := grown 0 [] (by simpa using hp) (by simp) trivial
      simp only [List.length_nil, Nat.zero_add, List.nil_append] at hg
      have hy : ¬ ys.length = 0 := by omega
      have hmi2 : ¬ (9223372036854775807 < (ys.length : Int)) := by simpa using hmi
      refine ⟨_, _, ?_, .new ?_ (ext _) ?_ hg⟩
      · simp [Builtin.append_, run_underlying ht.h, run_underlying hu, sizeOf, typeInfo, zeroValue, hi, hsz, hzz, hlen, notInt hnu, hnd, hy, hmi2, hcap, Question.forced, run_firstCells_none, newRow, grownCap]
      · rfl
      · simp
  · have hold : (cs.drop o).take (xs.length * T.sz) = (cs.drop o).take (xs.length * T.sz) := rfl
    have hmul : xs.length * T.sz ≤ cap * T.sz := Nat.mul_le_mul_right _ k3
    have hol : ((cs.drop o).take (xs.length * T.sz)).length = xs.length * T.sz := by rw [List.length_take, List.length_drop]; omega
    by_cases hfit : xs.length + ys.length ≤ cap
    · have hmul2 : (xs.length + ys.length) * T.sz ≤ cap * T.sz := Nat.mul_le_mul_right _ hfit
      rw [Nat.add_mul] at hmul2
      have hone : ∀ c ∈ news, c.oneCell' = true := by
        intro c hc
        obtain ⟨j, hj, rfl⟩ := List.mem_iff_getElem.1 hc
        have hj2 : j < (flat T.toTy ys).length := by rw [hn.length]; exact hj
        obtain ⟨c', hc', hφ⟩ := hn.get j _ (List.getElem?_eq_getElem hj2)
        rw [List.getElem?_eq_getElem hj] at hc'
        injection hc' with hc'; rw [hc']; exact hφ.2
      obtain ⟨w', hrun, hh, hk, hs', e1, e2, e3⟩ := run_storeCells (P := P) (b := b) (o := o + xs.length * T.sz) (e := e) news 0 w cs k1 (by rw [hnl]; omega) hone
      refine ⟨.slice (some ⟨b, o, none⟩) (xs.length + ys.length) cap, w', ?_, .at rfl (fun k hkk => hk k fun he => hkk (by rw [he]; rfl)) hs' e1 e2 e3 (fun b' hb' => by injection hb' with hb'; subst hb'; exact k7) ?_⟩
      · simp [Builtin.append_, run_underlying ht.h, run_underlying hu, sizeOf, typeInfo, hi, hsz, hlen, notInt hnu, hnw, hfit, add_at, hrun]
      · refine .inr ⟨b, o, cap, _, by simp, hh, ?_, by simpa using hfit, k4, ?_, ?_, k7⟩
        · simp only [List.length_append, List.length_take, List.length_drop, hnl]; omega
        · have e1 : ((cs.take (o + xs.length * T.sz + 0) ++ news ++ cs.drop (o + xs.length * T.sz + 0 + news.length)).drop o).take ((xs ++ ys).length * T.sz) = (cs.drop o).take (xs.length * T.sz) ++ news := by
            rw [Nat.add_zero, List.append_assoc, List.drop_append_of_le_length (by rw [List.length_take]; omega), List.drop_take, show o + xs.length * T.sz - o = xs.length * T.sz by omega, ← List.append_assoc]
            have : ((cs.drop o).take (xs.length * T.sz) ++ news).length = (xs ++ ys).length * T.sz := by rw [List.length_append, hol, hnl, List.length_append, Nat.add_mul]
            rw [← this, List.take_left]
          rw [e1, hlf]
          exact k5.append hn
        · intro c hc
          rcases List.mem_append.1 hc with hc | hc
          · rcases List.mem_append.1 hc with hc | hc
            · exact k6 c (List.mem_of_mem_take hc)
            · exact hone c hc
          · exact k6 c (List.mem_of_mem_drop hc)
    · have hcap : ¬ (281474976710656 < Builtin.nextslicecap (xs.length + ys.length) cap * i.bytes) := by
        have := growslice_fits (need := xs.length + ys.length) (old := cap) (bytes := by_) (by omega) hby
        rw [hbz]; omega
      have hg := grown cap _ (by omega) hol k5
      have hfo := run_firstCells_some (P := P) w.drew T.sz xs.length ⟨b, o, none⟩ xs.length cap _ hol (fun j c hj => by
        rw [add_at]
        refine (cell_heap (w := w) (w' := w.drew) rfl _).trans ?_
        rw [cell_at k1]
        rw [List.getElem?_take] at hj
        split at hj
        · rwa [List.getElem?_drop] at hj
        · cases hj)
      refine ⟨_, _, ?_, .new ?_ (ext _) ?_ hg⟩
      · simp [Builtin.append_, run_underlying ht.h, run_underlying hu, sizeOf, typeInfo, zeroValue, hi, hsz, hzz, hlen, notInt hnu, hnd, hfo, hfit, hmi, hcap, Question.forced, newRow, grownCap]
        congr 2
        apply Array.ext'
        simp [List.append_assoc]
      · rfl
      · simp
end
end Go.Proofs.YtljdjagackdplaaDoor.L
