/-
  Names and lists of names,walked.
-/
import Derived.Test.YtljbbajelkkafaaDoorNc
import Derived.Test.YtljbbajelkkafaaDoorLu
import Derived.Test.YtljbbajelkkafaaDoorLz
namespace Go.Proofs.YtljbbajelkkafaaDoor.L
open Go
set_option linter.unusedSectionVars false
variable [Globs]
set_option linter.unusedVariables false
theorem nameE_ok {s:Str} (h:nameOk s=true):nameE s=0:=by unfold nameE;rw [h];rfl
theorem nameE_bad {s:Str} (h:nameOk s=false):nameE s=130:=by unfold nameE;rw [h];rfl
theorem nameOk_cons {c:UInt8} {r:Str} (h1:r.length+1≤12) (h2:c.toNat ≠ 46):nameOk (c::r)=(c::r).all chOk:=by
  have e:(some c=some (46:UInt8))=False:=by
    rw [Option.some.injEq]
    exact eq_false fun h=>h2 (by rw [h];rfl)
  unfold nameOk
  rw [List.head?_cons]
  simp only [List.length_cons,decide_eq_true (show 1≤r.length+1 by omega),decide_eq_true h1,Bool.true_and,e,decide_false,Bool.not_false]
theorem idx_find {α:Type} {p:α→Bool} {l:List α} {i:Nat} {a:α} (ha:l[i]?=some a) (hp:p a=true) (h : ∀ (j:Nat) (b:α),j < i→l[j]?=some b→p b=false):l.findIdx p=i:=by
  obtain ⟨hi,rfl⟩:=List.getElem?_eq_some_iff.1 ha
  exact (List.findIdx_eq hi).2 ⟨hp,fun j hj=>h j _ hj (List.getElem?_eq_getElem (by omega))⟩
theorem any_t {α:Type} {p:α→Bool} {l:List α} {i:Nat} {a:α} (ha:l[i]?=some a) (hp:p a=true):l.any p=true:=List.any_eq_true.2 ⟨a,List.mem_of_getElem? ha,hp⟩
theorem any_f {α:Type} {p:α→Bool} {l:List α} (h : ∀ (j:Nat) (b:α),l[j]?=some b→p b=false):l.any p=false:=by
  cases k:l.any p with
  | false=>rfl
  | true =>
    obtain ⟨a,ha,hp⟩:=List.any_eq_true.1 k
    obtain ⟨j,hj⟩:=List.getElem?_of_mem ha
    rw [h j a hj] at hp;cases hp
def idxM {α:Type} (p:α→Bool) (l:List α):Int:=if l.any p then (l.findIdx p:Int) else -1
theorem idxM_t {α:Type} {p:α→Bool} {l:List α} {i:Nat} {a:α} (ha:l[i]?=some a) (hp:p a=true) (h : ∀ (j:Nat) (b:α),j < i→l[j]?=some b→p b=false):idxM p l=i:=by
  unfold idxM
  rw [any_t ha hp,idx_find ha hp h];rfl
theorem idxM_f {α:Type} {p:α→Bool} {l:List α} (h : ∀ (j:Nat) (b:α),l[j]?=some b→p b=false):idxM p l = -1:=by
  unfold idxM
  rw [any_f h];rfl
theorem idxM_pos {α:Type} {p:α→Bool} {l:List α}:decide (0≤idxM p l)=l.any p:=by
  unfold idxM
  cases l.any p with
  | true=>exact decide_eq_true (by show 0≤((_:Nat):Int);omega)
  | false=>rfl
set_option linter.unusedVariables false
set_option linter.unusedSimpArgs false
attribute [local irreducible] J Lq E OpP PRun is any agg tup ptr sl PRunW OpE
attribute [local irreducible] slt runesM nameE
theorem odd_fn (r:Int):Fn Tryd.prog 77 [is (.int .i32 r)] (is (.bool (oddR r))):=by
  refine Fn.mk' 26 Tryd.func77 rfl rfl rfl rfl fun w0 H0=>?_
  by_cases a:97≤r
  · by_cases b:r≤122
    · repeat (first|((first|(apply Lq.s;rfl)|apply PRun.s|(apply Lq.run;rfl;rfl;rfl;exact bsB)|(apply PRun.run;rfl;rfl;exact bsB));first|(exact bsO))|refine bsA ?_|(apply Lq.al;rfl;rfl;intro b)|(apply Open.cons;intro b)|(apply J.drawN;exact mixed;kernel_rfl)|refine bsC ?_)
      (refine J.ret ?_;(repeat (first|refine E.then_ret ?_|refine E.in_ret ?_)))
      have e:oddR r=false:=by unfold oddR;simp;omega
      rw [e]
      exact E.ret1 rfl rfl
    · have c:48≤r:=by omega
      have d : ¬ r≤57:=by omega
      repeat (first|((first|(apply Lq.s;rfl)|apply PRun.s|(apply Lq.run;rfl;rfl;rfl;exact bsB)|(apply PRun.run;rfl;rfl;exact bsB));first|(exact bsO))|refine bsA ?_|(apply Lq.al;rfl;rfl;intro b)|(apply Open.cons;intro b)|(apply J.drawN;exact mixed;kernel_rfl)|refine bsC ?_)
      (refine J.ret ?_;(repeat (first|refine E.then_ret ?_|refine E.in_ret ?_)))
      have e:oddR r=true:=by unfold oddR;simp;omega
      rw [e]
      exact E.ret1 rfl rfl
  · by_cases c:48≤r
    · by_cases d:r≤57
      · repeat (first|((first|(apply Lq.s;rfl)|apply PRun.s|(apply Lq.run;rfl;rfl;rfl;exact bsB)|(apply PRun.run;rfl;rfl;exact bsB));first|(exact bsO))|refine bsA ?_|(apply Lq.al;rfl;rfl;intro b)|(apply Open.cons;intro b)|(apply J.drawN;exact mixed;kernel_rfl)|refine bsC ?_)
        (refine J.ret ?_;(repeat (first|refine E.then_ret ?_|refine E.in_ret ?_)))
        have e:oddR r=false:=by unfold oddR;simp;omega
        rw [e]
        exact E.ret1 rfl rfl
      · repeat (first|((first|(apply Lq.s;rfl)|apply PRun.s|(apply Lq.run;rfl;rfl;rfl;exact bsB)|(apply PRun.run;rfl;rfl;exact bsB));first|(exact bsO))|refine bsA ?_|(apply Lq.al;rfl;rfl;intro b)|(apply Open.cons;intro b)|(apply J.drawN;exact mixed;kernel_rfl)|refine bsC ?_)
        (refine J.ret ?_;(repeat (first|refine E.then_ret ?_|refine E.in_ret ?_)))
        have e:oddR r=true:=by unfold oddR;simp;omega
        rw [e]
        exact E.ret1 rfl rfl
    · by_cases h1:r=45
      · repeat (first|((first|(apply Lq.s;rfl)|apply PRun.s|(apply Lq.run;rfl;rfl;rfl;exact bsB)|(apply PRun.run;rfl;rfl;exact bsB));first|(exact bsO))|refine bsA ?_|(apply Lq.al;rfl;rfl;intro b)|(apply Open.cons;intro b)|(apply J.drawN;exact mixed;kernel_rfl)|refine bsC ?_)
        (refine J.ret ?_;(repeat (first|refine E.then_ret ?_|refine E.in_ret ?_)))
        have e:oddR r=false:=by unfold oddR;simp;omega
        rw [e]
        exact E.ret1 rfl rfl
      by_cases h2:r=46
      · repeat (first|((first|(apply Lq.s;rfl)|apply PRun.s|(apply Lq.run;rfl;rfl;rfl;exact bsB)|(apply PRun.run;rfl;rfl;exact bsB));first|(exact bsO))|refine bsA ?_|(apply Lq.al;rfl;rfl;intro b)|(apply Open.cons;intro b)|(apply J.drawN;exact mixed;kernel_rfl)|refine bsC ?_)
        (refine J.ret ?_;(repeat (first|refine E.then_ret ?_|refine E.in_ret ?_)))
        have e:oddR r=false:=by unfold oddR;simp;omega
        rw [e]
        exact E.ret1 rfl rfl
      · repeat (first|((first|(apply Lq.s;rfl)|apply PRun.s|(apply Lq.run;rfl;rfl;rfl;exact bsB)|(apply PRun.run;rfl;rfl;exact bsB));first|(exact bsO))|refine bsA ?_|(apply Lq.al;rfl;rfl;intro b)|(apply Open.cons;intro b)|(apply J.drawN;exact mixed;kernel_rfl)|refine bsC ?_)
        (refine J.ret ?_;(repeat (first|refine E.then_ret ?_|refine E.in_ret ?_)))
        have e:oddR r=true:=by unfold oddR;simp;omega
        rw [e]
        exact E.ret1 rfl rfl
theorem runeIndex_fn (l:List Int) (hl:l.length≤1000000):Fn Tryd.prog 88 [sl (intT .i32).toTy l,is (.func (.func 77) #[] #[])] (is (.int .i64 (idxM oddR l))):=by
  refine Fn.mk' 19 Tryd.func88 rfl rfl rfl rfl fun w0 H0=>?_
  repeat (first|((first|(apply Lq.s;rfl)|apply PRun.s|(apply Lq.run;rfl;rfl;rfl;exact bsB)|(apply PRun.run;rfl;rfl;exact bsB));first|(exact bsO))|refine bsA ?_|(apply Lq.al;rfl;rfl;intro b)|(apply Open.cons;intro b)|(apply J.drawN;exact mixed;kernel_rfl)|refine bsC ?_)
  refine J.loop (fun i:Nat=>i≤l.length ∧ ∀ (j:Nat) (b:Int),j < i→l[j]?=some b→oddR b=false) (fun i=>[(0,sl (intT .i32).toTy l),(1,is (.func (.func 77) #[] #[])),(7,is (.int .i64 (l.length:Int))),(8,is (.int .i64 (i:Int)))]) (fun _=>[]) (fun i=>l.length - i) 0 ⟨Nat.zero_le _,fun j b hj=>by omega⟩ (Sub.same (by repeat' (first|exact trivial|refine ⟨rfl,?_⟩))) ?_
  rintro i ⟨hi,hp⟩
  by_cases hlt:i < l.length
  · obtain ⟨r,hr⟩ : ∃ r,l[i]?=some r:=⟨_,List.getElem?_eq_getElem hlt⟩
    have hf:=odd_fn r
    cases ho:oddR r
    · rw [ho] at hf
      repeat (first|((first|(apply Lq.s;rfl)|apply PRun.s|(apply Lq.run;rfl;rfl;rfl;exact bsB)|(apply PRun.run;rfl;rfl;exact bsB));first|(apply op_iaddr (intT .i32).toTy (x:=r);rfl;rfl;exact Int.natCast_nonneg _;(rw [Int.toNat_natCast];exact hr))|(apply op_load (intT .i32);rfl)|(apply op_callv (first:=[]) (captured:=[]) (ξs:=[is (.int .i32 r)]) hf;rfl;exact bsD;exact fun H vs h=>(by simpa using h))|(exact bsO))|refine bsA ?_|(apply Lq.al;rfl;rfl;intro b)|(apply Open.cons;intro b)|(apply J.drawN;exact mixed;kernel_rfl)|refine bsC ?_)
      refine E.again (i+1) (by omega) ⟨by omega,fun j b hj hb=>?_⟩ (Sub.same (by repeat' (first|exact trivial|refine ⟨rfl,?_⟩)))
      rcases Nat.lt_or_eq_of_le (Nat.le_of_lt_succ hj) with h|rfl
      · exact hp j b h hb
      · rw [hr] at hb;injection hb with hb;subst hb;exact ho
    · rw [ho] at hf
      repeat (first|((first|(apply Lq.s;rfl)|apply PRun.s|(apply Lq.run;rfl;rfl;rfl;exact bsB)|(apply PRun.run;rfl;rfl;exact bsB));first|(apply op_iaddr (intT .i32).toTy (x:=r);rfl;rfl;exact Int.natCast_nonneg _;(rw [Int.toNat_natCast];exact hr))|(apply op_load (intT .i32);rfl)|(apply op_callv (first:=[]) (captured:=[]) (ξs:=[is (.int .i32 r)]) hf;rfl;exact bsD;exact fun H vs h=>(by simpa using h))|(exact bsO))|refine bsA ?_|(apply Lq.al;rfl;rfl;intro b)|(apply Open.cons;intro b)|(apply J.drawN;exact mixed;kernel_rfl)|refine bsC ?_)
      (refine J.ret ?_;(repeat (first|refine E.then_ret ?_|refine E.in_ret ?_)))
      rw [idxM_t hr ho hp]
      exact E.ret1 rfl rfl
  · obtain rfl:i=l.length:=by omega
    repeat (first|((first|(apply Lq.s;rfl)|apply PRun.s|(apply Lq.run;rfl;rfl;rfl;exact bsB)|(apply PRun.run;rfl;rfl;exact bsB));first|(exact bsO))|refine bsA ?_|(apply Lq.al;rfl;rfl;intro b)|(apply Open.cons;intro b)|(apply J.drawN;exact mixed;kernel_rfl)|refine bsC ?_)
    (refine J.ret ?_;(repeat (first|refine E.then_ret ?_|refine E.in_ret ?_)))
    rw [idxM_f fun j b hb=>hp j b (List.getElem?_eq_some_iff.1 hb).1 hb]
    exact E.ret1 rfl rfl
theorem contains_fn (l:List Int) (hl:l.length≤1000000):Fn Tryd.prog 78 [sl (intT .i32).toTy l,is (.func (.func 77) #[] #[])] (is (.bool (l.any oddR))):=by
  have hf:=runeIndex_fn l hl
  rw [← idxM_pos]
  generalize idxM oddR l=z at *
  refine Fn.mk' 9 Tryd.func78 rfl rfl rfl rfl fun w0 H0=>?_
  repeat (first|((first|(apply Lq.s;rfl)|apply PRun.s|(apply Lq.run;rfl;rfl;rfl;exact bsB)|(apply PRun.run;rfl;rfl;exact bsB));first|(apply op_call hf;exact bsD)|(exact bsO))|refine bsA ?_|(apply Lq.al;rfl;rfl;intro b)|(apply Open.cons;intro b)|(apply J.drawN;exact mixed;kernel_rfl)|refine bsC ?_)
  (refine J.ret ?_;(repeat (first|refine E.then_ret ?_|refine E.in_ret ?_)))
  exact E.ret1 rfl rfl
theorem ncheck_fn (s:Str):Fn Tryd.prog 56 [is (str s)] (is (.int .i64 (nameE s))):=by
  cases s with
  | nil =>
    rw [nameE_bad (by rfl)]
    refine Fn.mk' 22 Tryd.func56 rfl rfl rfl rfl fun w0 H0=>?_
    repeat (first|((first|(apply Lq.s;rfl)|apply PRun.s|(apply Lq.run;rfl;rfl;rfl;exact bsB)|(apply PRun.run;rfl;rfl;exact bsB));first|(apply op_seql (a:=([]:Str)) (b:=[]);rfl;rfl)|(exact bsO))|refine bsA ?_|(apply Lq.al;rfl;rfl;intro b)|(apply Open.cons;intro b)|(apply J.drawN;exact mixed;kernel_rfl)|refine bsC ?_)
    (refine J.ret ?_;(repeat (first|refine E.then_ret ?_|refine E.in_ret ?_)))
    exact E.ret1 rfl rfl
  | cons c r =>
    have hne:decide ((c::r:Str)=[])=false:=rfl
    by_cases hl:12 < r.length+1
    · rw [nameE_bad (by unfold nameOk;rw [List.length_cons,decide_eq_false (show ¬ r.length+1≤12 by omega)];simp)]
      have hll:12 < (c::r).length:=by rw [List.length_cons];exact hl
      refine Fn.mk' 22 Tryd.func56 rfl rfl rfl rfl fun w0 H0=>?_
      repeat (first|((first|(apply Lq.s;rfl)|apply PRun.s|(apply Lq.run;rfl;rfl;rfl;exact bsB)|(apply PRun.run;rfl;rfl;exact bsB));first|(apply op_seql (a:=(c::r:Str)) (b:=[]);rfl;rfl)|(exact bsO))|refine bsA ?_|(apply Lq.al;rfl;rfl;intro b)|(apply Open.cons;intro b)|(apply J.drawN;exact mixed;kernel_rfl)|refine bsC ?_)
      (refine J.ret ?_;(repeat (first|refine E.then_ret ?_|refine E.in_ret ?_)))
      exact E.ret1 rfl rfl
    have hll:(c::r).length≤12:=by rw [List.length_cons];omega
    by_cases hc:c.toNat=46
    · rw [nameE_bad (by unfold nameOk;rw [List.head?_cons,UInt8.toNat_inj.1 (show c.toNat=(46:UInt8).toNat from hc)];simp)]
      refine Fn.mk' 22 Tryd.func56 rfl rfl rfl rfl fun w0 H0=>?_
      repeat (first|((first|(apply Lq.s;rfl)|apply PRun.s|(apply Lq.run;rfl;rfl;rfl;exact bsB)|(apply PRun.run;rfl;rfl;exact bsB));first|(apply op_seql (a:=(c::r:Str)) (b:=[]);rfl;rfl)|(apply op_sidx (b:=c);rfl;rfl;decide;rfl)|(exact bsO))|refine bsA ?_|(apply Lq.al;rfl;rfl;intro b)|(apply Open.cons;intro b)|(apply J.drawN;exact mixed;kernel_rfl)|refine bsC ?_)
      (refine J.ret ?_;(repeat (first|refine E.then_ret ?_|refine E.in_ret ?_)))
      exact E.ret1 rfl rfl
    have hk:=contains_fn (runesM (c::r)) (by have:=runes_len (c::r);omega)
    rw [runesM_odd] at hk
    have hn:=nameOk_cons (c:=c) (r:=r) (by omega) hc
    cases ha:(c::r).all chOk
    · rw [nameE_bad (hn.trans ha)]
      rw [ha] at hk
      refine Fn.mk' 22 Tryd.func56 rfl rfl rfl rfl fun w0 H0=>?_
      repeat (first|((first|(apply Lq.s;rfl)|apply PRun.s|(apply Lq.run;rfl;rfl;rfl;exact bsB)|(apply PRun.run;rfl;rfl;exact bsB));first|(apply op_seql (a:=(c::r:Str)) (b:=[]);rfl;rfl)|(apply op_sidx (b:=c);rfl;rfl;decide;rfl)|(apply op_runes (s:=c::r);rfl;(unfold maxLen;omega))|(apply op_call hk;exact bsD)|(exact bsO))|refine bsA ?_|(apply Lq.al;rfl;rfl;intro b)|(apply Open.cons;intro b)|(apply J.drawN;exact mixed;kernel_rfl)|refine bsC ?_)
      (refine J.ret ?_;(repeat (first|refine E.then_ret ?_|refine E.in_ret ?_)))
      exact E.ret1 rfl rfl
    · rw [nameE_ok (hn.trans ha)]
      rw [ha] at hk
      refine Fn.mk' 22 Tryd.func56 rfl rfl rfl rfl fun w0 H0=>?_
      repeat (first|((first|(apply Lq.s;rfl)|apply PRun.s|(apply Lq.run;rfl;rfl;rfl;exact bsB)|(apply PRun.run;rfl;rfl;exact bsB));first|(apply op_seql (a:=(c::r:Str)) (b:=[]);rfl;rfl)|(apply op_sidx (b:=c);rfl;rfl;decide;rfl)|(apply op_runes (s:=c::r);rfl;(unfold maxLen;omega))|(apply op_call hk;exact bsD)|(exact bsO))|refine bsA ?_|(apply Lq.al;rfl;rfl;intro b)|(apply Open.cons;intro b)|(apply J.drawN;exact mixed;kernel_rfl)|refine bsC ?_)
      (refine J.ret ?_;(repeat (first|refine E.then_ret ?_|refine E.in_ret ?_)))
      exact E.ret1 rfl rfl
end Go.Proofs.YtljbbajelkkafaaDoor.L
