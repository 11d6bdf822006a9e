/-
  Views that the program compares,walked.
-/
import Derived.Test.YtljbbajelkkafaaDoorMk
namespace Go.Proofs.YtljbbajelkkafaaDoor.L
open Go
set_option linter.unusedSectionVars false
variable [Globs] [Has_sha_table] [Has_sha_begin]
set_option linter.unusedVariables false
set_option linter.unusedVariables false
set_option linter.unusedSimpArgs false
attribute [local irreducible] J Lq E OpP PRun is any agg tup ptr sl PRunW OpE
attribute [local irreducible] slt row leafH shaH recsR OpR stL mdl
theorem mequalS_fn (l m:List Str) (hl:l.length≤9223372036854775807) (hm:m.length≤9223372036854775807):Fn Tryd.prog 71 [sl strT.toTy l,sl strT.toTy m] (is (.bool (decide (l=m)))):=by
  by_cases h:l.length=m.length
  case neg =>
    rw [decide_eq_false fun e=>h (by rw [e])]
    refine Fn.mk' 26 Tryd.func71 rfl rfl rfl rfl fun w0 H0=>?_
    repeat (first|((first|(apply Lq.s;rfl)|apply PRun.s|(apply Lq.run;rfl;rfl;rfl;exact bsB)|(apply PRun.run;rfl;rfl;exact bsB));first|(apply op_len (xs:=l);rfl)|(apply op_len (xs:=m);rfl)|(exact bsO))|refine bsA ?_|(apply Lq.al;rfl;rfl;intro b)|(apply Open.cons;intro b)|(apply J.drawN;exact mixed;kernel_rfl)|refine bsC ?_)
    (refine J.ret ?_;(repeat (first|refine E.then_ret ?_|refine E.in_ret ?_)))
    exact E.ret1 rfl rfl
  refine Fn.mk' 26 Tryd.func71 rfl rfl rfl rfl fun w0 H0=>?_
  repeat (first|((first|(apply Lq.s;rfl)|apply PRun.s|(apply Lq.run;rfl;rfl;rfl;exact bsB)|(apply PRun.run;rfl;rfl;exact bsB));first|(apply op_len (xs:=l);rfl)|(apply op_len (xs:=m);rfl)|(exact bsO))|refine bsA ?_|(apply Lq.al;rfl;rfl;intro b)|(apply Open.cons;intro b)|(apply J.drawN;exact mixed;kernel_rfl)|refine bsC ?_)
  refine J.loop (fun i:Nat=>i≤l.length ∧ ∀ (j:Nat) (x y:Str),j < i→l[j]?=some x→m[j]?=some y→x=y) (fun i=>[(0,sl strT.toTy l),(1,sl strT.toTy m),(12,is (.int .i64 (l.length:Int))),(13,is (.int .i64 (i:Int)))]) (fun _=>[]) (fun i=>l.length - i) 0 ⟨Nat.zero_le _,fun j x y hj=>by omega⟩ (Sub.same (by repeat' (first|exact trivial|refine ⟨rfl,?_⟩))) ?_
  rintro i ⟨hi,hp⟩
  by_cases hlt:i < l.length
  · obtain ⟨x,hx⟩ : ∃ x,l[i]?=some x:=⟨_,List.getElem?_eq_getElem hlt⟩
    obtain ⟨y,hy⟩ : ∃ y,m[i]?=some y:=⟨_,List.getElem?_eq_getElem (by omega)⟩
    by_cases hxy:x=y
    · have hdx:decide (x=y)=true:=decide_eq_true hxy
      repeat (first|((first|(apply Lq.s;rfl)|apply PRun.s|(apply Lq.run;rfl;rfl;rfl;exact bsB)|(apply PRun.run;rfl;rfl;exact bsB));first|(apply op_iaddr strT.toTy (x:=x);rfl;rfl;exact Int.natCast_nonneg _;(rw [Int.toNat_natCast];exact hx))|(apply op_iaddr strT.toTy (x:=y);rfl;rfl;exact Int.natCast_nonneg _;(rw [Int.toNat_natCast];exact hy))|(apply op_load strT;rfl)|(apply op_sneq (a:=x) (b:=y);rfl;rfl)|(exact bsO))|refine bsA ?_|(apply Lq.al;rfl;rfl;intro b)|(apply Open.cons;intro b)|(apply J.drawN;exact mixed;kernel_rfl)|refine bsC ?_)
      rw [hdx]
      repeat (first|((first|(apply Lq.s;rfl)|apply PRun.s|(apply Lq.run;rfl;rfl;rfl;exact bsB)|(apply PRun.run;rfl;rfl;exact bsB));first|(exact bsO))|refine bsA ?_|(apply Lq.al;rfl;rfl;intro b)|(apply Open.cons;intro b)|(apply J.drawN;exact mixed;kernel_rfl)|refine bsC ?_)
      refine E.again (i+1) (by omega) ⟨by omega,fun j u v hj hu hv=>?_⟩ (Sub.same (by repeat' (first|exact trivial|refine ⟨rfl,?_⟩)))
      rcases Nat.lt_or_eq_of_le (Nat.le_of_lt_succ hj) with h|rfl
      · exact hp j u v h hu hv
      · rw [hx] at hu;injection hu with hu;subst hu
        rw [hy] at hv;injection hv with hv;subst hv
        exact hxy
    · have hdx:decide (x=y)=false:=decide_eq_false hxy
      repeat (first|((first|(apply Lq.s;rfl)|apply PRun.s|(apply Lq.run;rfl;rfl;rfl;exact bsB)|(apply PRun.run;rfl;rfl;exact bsB));first|(apply op_iaddr strT.toTy (x:=x);rfl;rfl;exact Int.natCast_nonneg _;(rw [Int.toNat_natCast];exact hx))|(apply op_iaddr strT.toTy (x:=y);rfl;rfl;exact Int.natCast_nonneg _;(rw [Int.toNat_natCast];exact hy))|(apply op_load strT;rfl)|(apply op_sneq (a:=x) (b:=y);rfl;rfl)|(exact bsO))|refine bsA ?_|(apply Lq.al;rfl;rfl;intro b)|(apply Open.cons;intro b)|(apply J.drawN;exact mixed;kernel_rfl)|refine bsC ?_)
      rw [hdx]
      repeat (first|((first|(apply Lq.s;rfl)|apply PRun.s|(apply Lq.run;rfl;rfl;rfl;exact bsB)|(apply PRun.run;rfl;rfl;exact bsB));first|(exact bsO))|refine bsA ?_|(apply Lq.al;rfl;rfl;intro b)|(apply Open.cons;intro b)|(apply J.drawN;exact mixed;kernel_rfl)|refine bsC ?_)
      (refine J.ret ?_;(repeat (first|refine E.then_ret ?_|refine E.in_ret ?_)))
      rw [decide_eq_false (ne_at i x y hx hy hxy)]
      exact E.ret1 rfl rfl
  · obtain rfl:i=l.length:=by omega
    repeat (first|((first|(apply Lq.s;rfl)|apply PRun.s|(apply Lq.run;rfl;rfl;rfl;exact bsB)|(apply PRun.run;rfl;rfl;exact bsB));first|(exact bsO))|refine bsA ?_|(apply Lq.al;rfl;rfl;intro b)|(apply Open.cons;intro b)|(apply J.drawN;exact mixed;kernel_rfl)|refine bsC ?_)
    (refine J.ret ?_;(repeat (first|refine E.then_ret ?_|refine E.in_ret ?_)))
    rw [decide_eq_true (ext_at h fun j x y hx hy=>hp j x y (List.getElem?_eq_some_iff.1 hx).1 hx hy)]
    exact E.ret1 rfl rfl
theorem mequalR_fn (l m:List RecV) (hl:l.length≤9223372036854775807) (hm:m.length≤9223372036854775807):Fn Tryd.prog 72 [sl recVT.toTy l,sl recVT.toTy m] (is (.bool (decide (l=m)))):=by
  by_cases h:l.length=m.length
  case neg =>
    rw [decide_eq_false fun e=>h (by rw [e])]
    refine Fn.mk' 26 Tryd.func72 rfl rfl rfl rfl fun w0 H0=>?_
    repeat (first|((first|(apply Lq.s;rfl)|apply PRun.s|(apply Lq.run;rfl;rfl;rfl;exact bsB)|(apply PRun.run;rfl;rfl;exact bsB));first|(apply op_len (xs:=l);rfl)|(apply op_len (xs:=m);rfl)|(exact bsO))|refine bsA ?_|(apply Lq.al;rfl;rfl;intro b)|(apply Open.cons;intro b)|(apply J.drawN;exact mixed;kernel_rfl)|refine bsC ?_)
    (refine J.ret ?_;(repeat (first|refine E.then_ret ?_|refine E.in_ret ?_)))
    exact E.ret1 rfl rfl
  refine Fn.mk' 26 Tryd.func72 rfl rfl rfl rfl fun w0 H0=>?_
  repeat (first|((first|(apply Lq.s;rfl)|apply PRun.s|(apply Lq.run;rfl;rfl;rfl;exact bsB)|(apply PRun.run;rfl;rfl;exact bsB));first|(apply op_len (xs:=l);rfl)|(apply op_len (xs:=m);rfl)|(exact bsO))|refine bsA ?_|(apply Lq.al;rfl;rfl;intro b)|(apply Open.cons;intro b)|(apply J.drawN;exact mixed;kernel_rfl)|refine bsC ?_)
  refine J.loop (fun i:Nat=>i≤l.length ∧ ∀ (j:Nat) (x y:RecV),j < i→l[j]?=some x→m[j]?=some y→x=y) (fun i=>[(0,sl recVT.toTy l),(1,sl recVT.toTy m),(12,is (.int .i64 (l.length:Int))),(13,is (.int .i64 (i:Int)))]) (fun _=>[]) (fun i=>l.length - i) 0 ⟨Nat.zero_le _,fun j x y hj=>by omega⟩ (Sub.same (by repeat' (first|exact trivial|refine ⟨rfl,?_⟩))) ?_
  rintro i ⟨hi,hp⟩
  by_cases hlt:i < l.length
  · obtain ⟨x,hx⟩ : ∃ x,l[i]?=some x:=⟨_,List.getElem?_eq_getElem hlt⟩
    obtain ⟨y,hy⟩ : ∃ y,m[i]?=some y:=⟨_,List.getElem?_eq_getElem (by omega)⟩
    by_cases hxy:x=y
    · repeat (first|((first|(apply Lq.s;rfl)|apply PRun.s|(apply Lq.run;rfl;rfl;rfl;exact bsB)|(apply PRun.run;rfl;rfl;exact bsB));first|(apply op_iaddr recVT.toTy (x:=x);rfl;rfl;exact Int.natCast_nonneg _;(rw [Int.toNat_natCast];exact hx))|(apply op_iaddr recVT.toTy (x:=y);rfl;rfl;exact Int.natCast_nonneg _;(rw [Int.toNat_natCast];exact hy))|(apply op_load recVT;rfl)|(apply op_neA_f (T:=recVT) (m:=2) eqd_recv rfl rfl;rfl;rfl;exact hxy)|(exact bsO))|refine bsA ?_|(apply Lq.al;rfl;rfl;intro b)|(apply Open.cons;intro b)|(apply J.drawN;exact mixed;kernel_rfl)|refine bsC ?_)
      refine E.again (i+1) (by omega) ⟨by omega,fun j u v hj hu hv=>?_⟩ (Sub.same (by repeat' (first|exact trivial|refine ⟨rfl,?_⟩)))
      rcases Nat.lt_or_eq_of_le (Nat.le_of_lt_succ hj) with h|rfl
      · exact hp j u v h hu hv
      · rw [hx] at hu;injection hu with hu;subst hu
        rw [hy] at hv;injection hv with hv;subst hv
        exact hxy
    · repeat (first|((first|(apply Lq.s;rfl)|apply PRun.s|(apply Lq.run;rfl;rfl;rfl;exact bsB)|(apply PRun.run;rfl;rfl;exact bsB));first|(apply op_iaddr recVT.toTy (x:=x);rfl;rfl;exact Int.natCast_nonneg _;(rw [Int.toNat_natCast];exact hx))|(apply op_iaddr recVT.toTy (x:=y);rfl;rfl;exact Int.natCast_nonneg _;(rw [Int.toNat_natCast];exact hy))|(apply op_load recVT;rfl)|(apply op_neA_t (T:=recVT) (m:=2) eqd_recv rfl rfl;rfl;rfl;exact hxy)|(exact bsO))|refine bsA ?_|(apply Lq.al;rfl;rfl;intro b)|(apply Open.cons;intro b)|(apply J.drawN;exact mixed;kernel_rfl)|refine bsC ?_)
      (refine J.ret ?_;(repeat (first|refine E.then_ret ?_|refine E.in_ret ?_)))
      rw [decide_eq_false (ne_at i x y hx hy hxy)]
      exact E.ret1 rfl rfl
  · obtain rfl:i=l.length:=by omega
    repeat (first|((first|(apply Lq.s;rfl)|apply PRun.s|(apply Lq.run;rfl;rfl;rfl;exact bsB)|(apply PRun.run;rfl;rfl;exact bsB));first|(exact bsO))|refine bsA ?_|(apply Lq.al;rfl;rfl;intro b)|(apply Open.cons;intro b)|(apply J.drawN;exact mixed;kernel_rfl)|refine bsC ?_)
    (refine J.ret ?_;(repeat (first|refine E.then_ret ?_|refine E.in_ret ?_)))
    rw [decide_eq_true (ext_at h fun j x y hx hy=>hp j x y (List.getElem?_eq_some_iff.1 hx).1 hx hy)]
    exact E.ret1 rfl rfl
theorem mseen_fn (a z:SeenV) (ha:a.recs.length≤9223372036854775807∧a.holds.length≤9223372036854775807) (hz:z.recs.length≤9223372036854775807∧z.holds.length≤9223372036854775807):Fn Tryd.prog 51 [seenT.val a,seenT.val z] (is (.bool (decide (a=z)))):=by
  have hf1:=mequalS_fn a.holds z.holds ha.2 hz.2
  have hf2:=mequalR_fn a.recs z.recs ha.1 hz.1
  by_cases h1:a.name=z.name
  case neg =>
    rw [seen_ne (.inl h1)]
    have hd:decide (a.name=z.name)=false:=decide_eq_false h1
    refine Fn.mk' 31 Tryd.func51 rfl rfl rfl rfl fun w0 H0=>?_
    repeat (first|((first|(apply Lq.s;rfl)|apply PRun.s|(apply Lq.run;rfl;rfl;rfl;exact bsB)|(apply PRun.run;rfl;rfl;exact bsB));first|(apply op_box seenT;rfl)|(apply op_faddr seen_name;rfl;decide)|(apply op_faddr seen_retain;rfl;decide)|(apply op_faddr seen_holds;rfl;decide)|(apply op_faddr seen_recs;rfl;decide)|(apply op_load strT;rfl)|(apply op_load (intT .i64);rfl)|(apply op_load (slT strT);rfl)|(apply op_load (slT recVT);rfl)|(apply op_load seenT;rfl)|(apply op_seql (a:=a.name) (b:=z.name);rfl;rfl)|(exact bsO))|refine bsA ?_|(apply Lq.al;rfl;rfl;intro b)|(apply Open.cons;intro b)|(apply J.drawN;exact mixed;kernel_rfl)|refine bsC ?_)
    (refine J.ret ?_;(repeat (first|refine E.then_ret ?_|refine E.in_ret ?_)))
    exact E.ret1 rfl rfl
  have hd:decide (a.name=z.name)=true:=decide_eq_true h1
  by_cases h2:a.retain=z.retain
  case neg =>
    rw [seen_ne (.inr (.inl h2))]
    refine Fn.mk' 31 Tryd.func51 rfl rfl rfl rfl fun w0 H0=>?_
    repeat (first|((first|(apply Lq.s;rfl)|apply PRun.s|(apply Lq.run;rfl;rfl;rfl;exact bsB)|(apply PRun.run;rfl;rfl;exact bsB));first|(apply op_box seenT;rfl)|(apply op_faddr seen_name;rfl;decide)|(apply op_faddr seen_retain;rfl;decide)|(apply op_faddr seen_holds;rfl;decide)|(apply op_faddr seen_recs;rfl;decide)|(apply op_load strT;rfl)|(apply op_load (intT .i64);rfl)|(apply op_load (slT strT);rfl)|(apply op_load (slT recVT);rfl)|(apply op_load seenT;rfl)|(apply op_seql (a:=a.name) (b:=z.name);rfl;rfl)|(exact bsO))|refine bsA ?_|(apply Lq.al;rfl;rfl;intro b)|(apply Open.cons;intro b)|(apply J.drawN;exact mixed;kernel_rfl)|refine bsC ?_)
    (refine J.ret ?_;(repeat (first|refine E.then_ret ?_|refine E.in_ret ?_)))
    exact E.ret1 rfl rfl
  by_cases h3:a.holds=z.holds
  case neg =>
    rw [seen_ne (.inr (.inr (.inl h3)))]
    rw [decide_eq_false h3] at hf1
    refine Fn.mk' 31 Tryd.func51 rfl rfl rfl rfl fun w0 H0=>?_
    repeat (first|((first|(apply Lq.s;rfl)|apply PRun.s|(apply Lq.run;rfl;rfl;rfl;exact bsB)|(apply PRun.run;rfl;rfl;exact bsB));first|(apply op_box seenT;rfl)|(apply op_faddr seen_name;rfl;decide)|(apply op_faddr seen_retain;rfl;decide)|(apply op_faddr seen_holds;rfl;decide)|(apply op_faddr seen_recs;rfl;decide)|(apply op_load strT;rfl)|(apply op_load (intT .i64);rfl)|(apply op_load (slT strT);rfl)|(apply op_load (slT recVT);rfl)|(apply op_load seenT;rfl)|(apply op_seql (a:=a.name) (b:=z.name);rfl;rfl)|(apply op_call hf1;exact bsD)|(exact bsO))|refine bsA ?_|(apply Lq.al;rfl;rfl;intro b)|(apply Open.cons;intro b)|(apply J.drawN;exact mixed;kernel_rfl)|refine bsC ?_)
    (refine J.ret ?_;(repeat (first|refine E.then_ret ?_|refine E.in_ret ?_)))
    exact E.ret1 rfl rfl
  rw [decide_eq_true h3] at hf1
  rw [show decide (a=z)=decide (a.recs=z.recs) by
    by_cases h4:a.recs=z.recs
    · rw [seen_eq h1 h2 h3 h4,decide_eq_true h4]
    · rw [seen_ne (.inr (.inr (.inr h4))),decide_eq_false h4]]
  refine Fn.mk' 31 Tryd.func51 rfl rfl rfl rfl fun w0 H0=>?_
  repeat (first|((first|(apply Lq.s;rfl)|apply PRun.s|(apply Lq.run;rfl;rfl;rfl;exact bsB)|(apply PRun.run;rfl;rfl;exact bsB));first|(apply op_box seenT;rfl)|(apply op_faddr seen_name;rfl;decide)|(apply op_faddr seen_retain;rfl;decide)|(apply op_faddr seen_holds;rfl;decide)|(apply op_faddr seen_recs;rfl;decide)|(apply op_load strT;rfl)|(apply op_load (intT .i64);rfl)|(apply op_load (slT strT);rfl)|(apply op_load (slT recVT);rfl)|(apply op_load seenT;rfl)|(apply op_seql (a:=a.name) (b:=z.name);rfl;rfl)|(apply op_call hf1;exact bsD)|(apply op_call hf2;exact bsD)|(exact bsO))|refine bsA ?_|(apply Lq.al;rfl;rfl;intro b)|(apply Open.cons;intro b)|(apply J.drawN;exact mixed;kernel_rfl)|refine bsC ?_)
  (refine J.ret ?_;(repeat (first|refine E.then_ret ?_|refine E.in_ret ?_)))
  exact E.ret1 rfl rfl
theorem mequalF_fn (l m:List SeenV) (hl:l.length≤9223372036854775807) (hm:m.length≤9223372036854775807) (hgl : ∀ x ∈ l,x.recs.length≤9223372036854775807∧x.holds.length≤9223372036854775807) (hgm : ∀ x ∈ m,x.recs.length≤9223372036854775807∧x.holds.length≤9223372036854775807):Fn Tryd.prog 50 [sl seenT.toTy l,sl seenT.toTy m,is (.func (.func 51) #[] #[])] (is (.bool (decide (l=m)))):=by
  by_cases h:l.length=m.length
  case neg =>
    rw [decide_eq_false fun e=>h (by rw [e])]
    refine Fn.mk' 32 Tryd.func50 rfl rfl rfl rfl fun w0 H0=>?_
    repeat (first|((first|(apply Lq.s;rfl)|apply PRun.s|(apply Lq.run;rfl;rfl;rfl;exact bsB)|(apply PRun.run;rfl;rfl;exact bsB));first|(apply op_len (xs:=l);rfl)|(apply op_len (xs:=m);rfl)|(exact bsO))|refine bsA ?_|(apply Lq.al;rfl;rfl;intro b)|(apply Open.cons;intro b)|(apply J.drawN;exact mixed;kernel_rfl)|refine bsC ?_)
    (refine J.ret ?_;(repeat (first|refine E.then_ret ?_|refine E.in_ret ?_)))
    exact E.ret1 rfl rfl
  refine Fn.mk' 32 Tryd.func50 rfl rfl rfl rfl fun w0 H0=>?_
  repeat (first|((first|(apply Lq.s;rfl)|apply PRun.s|(apply Lq.run;rfl;rfl;rfl;exact bsB)|(apply PRun.run;rfl;rfl;exact bsB));first|(apply op_len (xs:=l);rfl)|(apply op_len (xs:=m);rfl)|(exact bsO))|refine bsA ?_|(apply Lq.al;rfl;rfl;intro b)|(apply Open.cons;intro b)|(apply J.drawN;exact mixed;kernel_rfl)|refine bsC ?_)
  refine J.loop (fun i:Nat=>i≤l.length ∧ ∀ (j:Nat) (x y:SeenV),j < i→l[j]?=some x→m[j]?=some y→x=y) (fun i=>[(1,sl seenT.toTy m),(2,is (.func (.func 51) #[] #[])),(15,sl seenT.toTy l),(16,is (.int .i64 (l.length:Int))),(17,is (.int .i64 (i:Int)))]) (fun _=>[]) (fun i=>l.length - i) 0 ⟨Nat.zero_le _,fun j x y hj=>by omega⟩ (Sub.same (by repeat' (first|exact trivial|refine ⟨rfl,?_⟩))) ?_
  rintro i ⟨hi,hp⟩
  by_cases hlt:i < l.length
  case neg =>
    obtain rfl:i=l.length:=by omega
    repeat (first|((first|(apply Lq.s;rfl)|apply PRun.s|(apply Lq.run;rfl;rfl;rfl;exact bsB)|(apply PRun.run;rfl;rfl;exact bsB));first|(exact bsO))|refine bsA ?_|(apply Lq.al;rfl;rfl;intro b)|(apply Open.cons;intro b)|(apply J.drawN;exact mixed;kernel_rfl)|refine bsC ?_)
    (refine J.ret ?_;(repeat (first|refine E.then_ret ?_|refine E.in_ret ?_)))
    rw [decide_eq_true (ext_at h fun j x y hx hy=>hp j x y (List.getElem?_eq_some_iff.1 hx).1 hx hy)]
    exact E.ret1 rfl rfl
  obtain ⟨x,hx⟩ : ∃ x,l[i]?=some x:=⟨_,List.getElem?_eq_getElem hlt⟩
  obtain ⟨y,hy⟩ : ∃ y,m[i]?=some y:=⟨_,List.getElem?_eq_getElem (by omega)⟩
  have hsf:=mseen_fn x y (hgl x (List.mem_of_getElem? hx)) (hgm y (List.mem_of_getElem? hy))
  repeat (first|((first|(apply Lq.s;rfl)|apply PRun.s|(apply Lq.run;rfl;rfl;rfl;exact bsB)|(apply PRun.run;rfl;rfl;exact bsB));first|(exact bsO))|refine bsA ?_|(apply Lq.al;rfl;rfl;intro b)|(apply Open.cons;intro b)|(apply J.drawN;exact mixed;kernel_rfl)|refine bsC ?_)
  (apply Lq.s;rfl;(apply op_iaddr seenT.toTy (x:=x);rfl;rfl;exact Int.natCast_nonneg _;(rw [Int.toNat_natCast];exact hx)))
  (apply Lq.s;rfl;(apply op_load seenT;rfl))
  (apply Lq.al;rfl;rfl;intro bb)
  (apply Lq.s;rfl;(apply op_assign;rfl))
  (apply Lq.storeE (φs':=seenT.cells x);rfl;rfl;exact List.Perm.refl _;exact Seg.val _ _;rfl;exact Nat.le_refl 4;exact splice_all (by rw [seenT.len];rfl))
  refine Lq.frzB 8 rfl (List.Perm.refl _) ?_
  repeat (first|((first|(apply Lq.s;rfl)|apply PRun.s|(apply Lq.run;rfl;rfl;rfl;exact bsB)|(apply PRun.run;rfl;rfl;exact bsB));first|(exact bsO))|refine bsA ?_|(apply Lq.al;rfl;rfl;intro b)|(apply Open.cons;intro b)|(apply J.drawN;exact mixed;kernel_rfl)|refine bsC ?_)
  (apply Lq.s;rfl;(apply op_iaddr seenT.toTy (x:=y);rfl;rfl;exact Int.natCast_nonneg _;(rw [Int.toNat_natCast];exact hy)))
  (apply Lq.s;rfl;(apply op_load seenT;rfl))
  (apply Lq.al;rfl;rfl;intro bb)
  (apply Lq.storeE (φs':=seenT.cells y);rfl;rfl;exact List.Perm.refl _;exact Seg.val _ _;rfl;exact Nat.le_refl 4;exact splice_all (by rw [seenT.len];rfl))
  refine Lq.frzB 9 rfl (List.Perm.refl _) ?_
  by_cases hxy:x=y
  · rw [decide_eq_true hxy] at hsf
    repeat (first|((first|(apply Lq.s;rfl)|apply PRun.s|(apply Lq.run;rfl;rfl;rfl;exact bsB)|(apply PRun.run;rfl;rfl;exact bsB));first|(apply op_load seenT;rfl)|(apply op_callv (first:=[]) (captured:=[]) (ξs:=[seenT.val x,seenT.val y]) hsf;rfl;exact bsD;exact fun H vs h=>(by simpa using h))|(exact bsO))|refine bsA ?_|(apply Lq.al;rfl;rfl;intro b)|(apply Open.cons;intro b)|(apply J.drawN;exact mixed;kernel_rfl)|refine bsC ?_)
    refine E.again (i+1) (by omega) ⟨by omega,fun j u v hj hu hv=>?_⟩ (Sub.same (by repeat' (first|exact trivial|refine ⟨rfl,?_⟩)))
    rcases Nat.lt_or_eq_of_le (Nat.le_of_lt_succ hj) with h'|rfl
    · exact hp j u v h' hu hv
    · rw [hx] at hu;injection hu with hu;subst hu
      rw [hy] at hv;injection hv with hv;subst hv
      exact hxy
  · rw [decide_eq_false hxy] at hsf
    repeat (first|((first|(apply Lq.s;rfl)|apply PRun.s|(apply Lq.run;rfl;rfl;rfl;exact bsB)|(apply PRun.run;rfl;rfl;exact bsB));first|(apply op_load seenT;rfl)|(apply op_callv (first:=[]) (captured:=[]) (ξs:=[seenT.val x,seenT.val y]) hsf;rfl;exact bsD;exact fun H vs h=>(by simpa using h))|(exact bsO))|refine bsA ?_|(apply Lq.al;rfl;rfl;intro b)|(apply Open.cons;intro b)|(apply J.drawN;exact mixed;kernel_rfl)|refine bsC ?_)
    (refine J.ret ?_;(repeat (first|refine E.then_ret ?_|refine E.in_ret ?_)))
    rw [decide_eq_false (ne_at i x y hx hy hxy)]
    exact E.ret1 rfl rfl
theorem msame_fn (a z:ViewV) (ha:GoodV a) (hz:GoodV z):Fn Tryd.prog 27 [viewT.val a,viewT.val z] (is (.bool (decide (a=z)))):=by
  have hf:=mequalF_fn a.streams z.streams ha.1 hz.1 ha.2 hz.2
  by_cases h1:a.clock=z.clock
  case neg =>
    rw [view_ne (.inl h1)]
    refine Fn.mk' 17 Tryd.func27 rfl rfl rfl rfl fun w0 H0=>?_
    repeat (first|((first|(apply Lq.s;rfl)|apply PRun.s|(apply Lq.run;rfl;rfl;rfl;exact bsB)|(apply PRun.run;rfl;rfl;exact bsB));first|(apply op_box viewT;rfl)|(apply op_faddr view_clock;rfl;decide)|(apply op_faddr view_streams;rfl;decide)|(apply op_load (intT .i64);rfl)|(apply op_load (slT seenT);rfl)|(apply op_load viewT;rfl)|(apply op_load seenT;rfl)|(exact bsO))|refine bsA ?_|(apply Lq.al;rfl;rfl;intro b)|(apply Open.cons;intro b)|(apply J.drawN;exact mixed;kernel_rfl)|refine bsC ?_)
    (refine J.ret ?_;(repeat (first|refine E.then_ret ?_|refine E.in_ret ?_)))
    exact E.ret1 rfl rfl
  rw [show decide (a=z)=decide (a.streams=z.streams) by
    by_cases h2:a.streams=z.streams
    · rw [view_eq h1 h2,decide_eq_true h2]
    · rw [view_ne (.inr h2),decide_eq_false h2]]
  refine Fn.mk' 17 Tryd.func27 rfl rfl rfl rfl fun w0 H0=>?_
  repeat (first|((first|(apply Lq.s;rfl)|apply PRun.s|(apply Lq.run;rfl;rfl;rfl;exact bsB)|(apply PRun.run;rfl;rfl;exact bsB));first|(apply op_box viewT;rfl)|(apply op_faddr view_clock;rfl;decide)|(apply op_faddr view_streams;rfl;decide)|(apply op_load (intT .i64);rfl)|(apply op_load (slT seenT);rfl)|(apply op_load viewT;rfl)|(apply op_load seenT;rfl)|(apply op_call hf;exact bsD)|(exact bsO))|refine bsA ?_|(apply Lq.al;rfl;rfl;intro b)|(apply Open.cons;intro b)|(apply J.drawN;exact mixed;kernel_rfl)|refine bsC ?_)
  (refine J.ret ?_;(repeat (first|refine E.then_ret ?_|refine E.in_ret ?_)))
  exact E.ret1 rfl rfl
end Go.Proofs.YtljbbajelkkafaaDoor.L
