/-
  Views and steps that the laws compare,walked.
-/
import Derived.Test.YtljbbajelkkafaaDoorMj
namespace Go.Proofs.YtljbbajelkkafaaDoor.L
open Go
set_option linter.unusedSectionVars false
variable [Globs] [Has_sha_table] [Has_sha_begin]
set_option linter.unusedVariables false
theorem eqd_recv {P:Program} {t ti ts tb:Nat} [TEq P t [(0,ti),(1,ts),(2,tb)]] [TInt P ti .i64] [TSz P ti 1] [TAg P ti false] [TStr P ts] [TSz P ts 1] [TAg P ts false] [TBool P tb] [TSz P tb 1] [TAg P tb false]:Eqd P t recVT 2:=⟨fun {H x y u v w} d hd hu hv=>by
  obtain ⟨d,rfl⟩ : ∃ j,d=j+1:=⟨d - 1,by omega⟩
  obtain ⟨cx,rfl,hx⟩:=hu
  obtain ⟨cy,rfl,hy⟩:=hv
  haveI:TSz P ti (intT .i64).sz:=(inferInstance:TSz P ti 1)
  haveI:TAg P ti (intT .i64).ag:=(inferInstance:TAg P ti false)
  haveI:TSz P ts strT.sz:=(inferInstance:TSz P ts 1)
  haveI:TAg P ts strT.ag:=(inferInstance:TAg P ts false)
  haveI:TSz P tb boolT.sz:=(inferInstance:TSz P tb 1)
  haveI:TAg P tb boolT.ag:=(inferInstance:TAg P tb false)
  refine (eqd_of (H:=H) (l:=[(0,ti),(1,ts),(2,tb)]) (b:=decide (x.time=y.time) && (decide (x.text=y.text) && (decide (x.shred=y.shred) && true))) ?_).trans ?_
  · refine .cons (intT .i64) x.time y.time 1 0 ti _ _ eqd_int (by omega) (seg_of (a:=[]) hx rfl rfl rfl) (seg_of (a:=[]) hy rfl rfl rfl) ?_
    refine .cons strT x.text y.text 1 1 ts _ _ eqd_str (by omega) (seg_of (a:=[is (.int .i64 x.time)]) hx rfl rfl rfl) (seg_of (a:=[is (.int .i64 y.time)]) hy rfl rfl rfl) ?_
    exact .cons boolT x.shred y.shred 1 2 tb _ _ eqd_bool (by omega) (seg_of (a:=[is (.int .i64 x.time),is (str x.text)]) (b:=[]) hx rfl rfl rfl) (seg_of (a:=[is (.int .i64 y.time),is (str y.text)]) (b:=[]) hy rfl rfl rfl) .nil
  · congr 1
    cases x;cases y
    simp⟩
theorem ext_at {α:Type} {l m:List α} (hl:l.length=m.length) (h : ∀ (i:Nat) (a b:α),l[i]?=some a→m[i]?=some b→a=b):l=m:=by
  refine List.ext_getElem? fun i=>?_
  by_cases hlt:i < l.length
  · rw [List.getElem?_eq_getElem hlt,List.getElem?_eq_getElem (by omega)]
    exact congrArg some (h i _ _ (List.getElem?_eq_getElem hlt) (List.getElem?_eq_getElem (by omega)))
  · rw [List.getElem?_eq_none (by omega),List.getElem?_eq_none (by omega)]
theorem ne_at {α:Type} {l m:List α} (i:Nat) (a b:α) (ha:l[i]?=some a) (hb:m[i]?=some b) (h:a ≠ b):l ≠ m:=fun e=>by
  subst e
  rw [ha] at hb;injection hb with hb
  exact h hb
def GoodV (v:ViewV):Prop:=v.streams.length≤9223372036854775807 ∧ ∀ x ∈ v.streams,x.recs.length≤9223372036854775807∧x.holds.length≤9223372036854775807
theorem good_view {t:MSt} (h:StOk t):GoodV t.v:=by
  refine ⟨by show (t.streams.map _).length≤_;rw [List.length_map];have:=h.1;omega,fun x hx=>?_⟩
  obtain ⟨s,hs,rfl⟩:=List.mem_map.1 hx
  obtain ⟨h1,h2,_⟩:=h.2 s hs
  exact ⟨by show (s.recs.map _).length≤_;rw [List.length_map];omega,by show s.holds.length≤_;omega⟩
theorem good_empty:GoodV emptyV:=⟨Nat.zero_le _,fun x hx=>by cases hx⟩
theorem good_viewM {m:MM} (h:MOk m):GoodV (viewM m):=by
  unfold viewM;split
  · exact good_view h.cur
  · exact good_empty
theorem good_sureM {m:MM} (h:MOk m):GoodV (sureM m):=by
  unfold sureM;split
  · exact good_view h.sure
  · exact good_empty
def longStep (s:StepS):Bool:=decide (400 < s.text.length) || (decide (100 < s.name.length) || decide (60 < s.keep.length))
def beyondL (l:List StepS) (n:Int):Bool:=decide (n < (l.length:Int)) || l.any longStep
theorem seen_ne {a b:SeenV} (h:a.name ≠ b.name ∨ a.retain ≠ b.retain ∨ a.holds ≠ b.holds ∨ a.recs ≠ b.recs):decide (a=b)=false:=decide_eq_false fun e=>by subst e;simp at h
theorem seen_eq {a b:SeenV} (h1:a.name=b.name) (h2:a.retain=b.retain) (h3:a.holds=b.holds) (h4:a.recs=b.recs):decide (a=b)=true:=decide_eq_true (by cases a;cases b;simp at *;exact ⟨h1,h2,h3,h4⟩)
theorem view_ne {a b:ViewV} (h:a.clock ≠ b.clock ∨ a.streams ≠ b.streams):decide (a=b)=false:=decide_eq_false fun e=>by subst e;simp at h
theorem view_eq {a b:ViewV} (h1:a.clock=b.clock) (h2:a.streams=b.streams):decide (a=b)=true:=decide_eq_true (by cases a;cases b;simp at *;exact ⟨h1,h2⟩)
set_option linter.unusedVariables false
set_option linter.unusedSimpArgs false
attribute [local irreducible] J Lq E OpP PRun is any agg tup ptr sl PRunW OpE
attribute [local irreducible] slt row leafH shaH recsR OpR stL mdl
theorem sameSeen_fn (a z:SeenV) (ha:a.recs.length≤9223372036854775807∧a.holds.length≤9223372036854775807) (hz:z.recs.length≤9223372036854775807∧z.holds.length≤9223372036854775807):Fn Tryd.prog 37 [seenT.val a,seenT.val z] (is (.bool (decide (a=z)))):=by
  by_cases h1:a.name=z.name
  case neg =>
    rw [seen_ne (.inl h1)]
    have hd:decide (a.name=z.name)=false:=decide_eq_false h1
    refine Fn.mk' 73 Tryd.func37 rfl rfl rfl rfl fun w0 H0=>?_
    repeat (first|((first|(apply Lq.s;rfl)|apply PRun.s|(apply Lq.run;rfl;rfl;rfl;exact bsB)|(apply PRun.run;rfl;rfl;exact bsB));first|(apply op_box seenT;rfl)|(apply op_faddr seen_name;rfl;decide)|(apply op_faddr seen_retain;rfl;decide)|(apply op_faddr seen_holds;rfl;decide)|(apply op_faddr seen_recs;rfl;decide)|(apply op_load strT;rfl)|(apply op_load (intT .i64);rfl)|(apply op_load (slT strT);rfl)|(apply op_load (slT recVT);rfl)|(apply op_load seenT;rfl)|(apply op_sneq (a:=a.name) (b:=z.name);rfl;rfl)|(exact bsO))|refine bsA ?_|(apply Lq.al;rfl;rfl;intro b)|(apply Open.cons;intro b)|(apply J.drawN;exact mixed;kernel_rfl)|refine bsC ?_)
    rw [hd]
    repeat (first|((first|(apply Lq.s;rfl)|apply PRun.s|(apply Lq.run;rfl;rfl;rfl;exact bsB)|(apply PRun.run;rfl;rfl;exact bsB));first|(apply op_box seenT;rfl)|(apply op_faddr seen_name;rfl;decide)|(apply op_faddr seen_retain;rfl;decide)|(apply op_faddr seen_holds;rfl;decide)|(apply op_faddr seen_recs;rfl;decide)|(apply op_load strT;rfl)|(apply op_load (intT .i64);rfl)|(apply op_load (slT strT);rfl)|(apply op_load (slT recVT);rfl)|(apply op_load seenT;rfl)|(exact bsO))|refine bsA ?_|(apply Lq.al;rfl;rfl;intro b)|(apply Open.cons;intro b)|(apply J.drawN;exact mixed;kernel_rfl)|refine bsC ?_)
    (refine J.ret ?_;(repeat (first|refine E.then_ret ?_|refine E.in_ret ?_)))
    exact E.ret1 rfl rfl
  have hd:decide (a.name=z.name)=true:=decide_eq_true h1
  by_cases h2:a.retain=z.retain
  case neg =>
    rw [seen_ne (.inr (.inl h2))]
    refine Fn.mk' 73 Tryd.func37 rfl rfl rfl rfl fun w0 H0=>?_
    repeat (first|((first|(apply Lq.s;rfl)|apply PRun.s|(apply Lq.run;rfl;rfl;rfl;exact bsB)|(apply PRun.run;rfl;rfl;exact bsB));first|(apply op_box seenT;rfl)|(apply op_faddr seen_name;rfl;decide)|(apply op_faddr seen_retain;rfl;decide)|(apply op_faddr seen_holds;rfl;decide)|(apply op_faddr seen_recs;rfl;decide)|(apply op_load strT;rfl)|(apply op_load (intT .i64);rfl)|(apply op_load (slT strT);rfl)|(apply op_load (slT recVT);rfl)|(apply op_load seenT;rfl)|(apply op_sneq (a:=a.name) (b:=z.name);rfl;rfl)|(exact bsO))|refine bsA ?_|(apply Lq.al;rfl;rfl;intro b)|(apply Open.cons;intro b)|(apply J.drawN;exact mixed;kernel_rfl)|refine bsC ?_)
    rw [hd]
    repeat (first|((first|(apply Lq.s;rfl)|apply PRun.s|(apply Lq.run;rfl;rfl;rfl;exact bsB)|(apply PRun.run;rfl;rfl;exact bsB));first|(apply op_box seenT;rfl)|(apply op_faddr seen_name;rfl;decide)|(apply op_faddr seen_retain;rfl;decide)|(apply op_faddr seen_holds;rfl;decide)|(apply op_faddr seen_recs;rfl;decide)|(apply op_load strT;rfl)|(apply op_load (intT .i64);rfl)|(apply op_load (slT strT);rfl)|(apply op_load (slT recVT);rfl)|(apply op_load seenT;rfl)|(exact bsO))|refine bsA ?_|(apply Lq.al;rfl;rfl;intro b)|(apply Open.cons;intro b)|(apply J.drawN;exact mixed;kernel_rfl)|refine bsC ?_)
    (refine J.ret ?_;(repeat (first|refine E.then_ret ?_|refine E.in_ret ?_)))
    exact E.ret1 rfl rfl
  by_cases h3:a.holds.length=z.holds.length
  case neg =>
    rw [seen_ne (.inr (.inr (.inl fun e=>h3 (by rw [e]))))]
    refine Fn.mk' 73 Tryd.func37 rfl rfl rfl rfl fun w0 H0=>?_
    repeat (first|((first|(apply Lq.s;rfl)|apply PRun.s|(apply Lq.run;rfl;rfl;rfl;exact bsB)|(apply PRun.run;rfl;rfl;exact bsB));first|(apply op_box seenT;rfl)|(apply op_faddr seen_name;rfl;decide)|(apply op_faddr seen_retain;rfl;decide)|(apply op_faddr seen_holds;rfl;decide)|(apply op_faddr seen_recs;rfl;decide)|(apply op_load strT;rfl)|(apply op_load (intT .i64);rfl)|(apply op_load (slT strT);rfl)|(apply op_load (slT recVT);rfl)|(apply op_load seenT;rfl)|(apply op_sneq (a:=a.name) (b:=z.name);rfl;rfl)|(exact bsO))|refine bsA ?_|(apply Lq.al;rfl;rfl;intro b)|(apply Open.cons;intro b)|(apply J.drawN;exact mixed;kernel_rfl)|refine bsC ?_)
    rw [hd]
    repeat (first|((first|(apply Lq.s;rfl)|apply PRun.s|(apply Lq.run;rfl;rfl;rfl;exact bsB)|(apply PRun.run;rfl;rfl;exact bsB));first|(apply op_box seenT;rfl)|(apply op_faddr seen_name;rfl;decide)|(apply op_faddr seen_retain;rfl;decide)|(apply op_faddr seen_holds;rfl;decide)|(apply op_faddr seen_recs;rfl;decide)|(apply op_load strT;rfl)|(apply op_load (intT .i64);rfl)|(apply op_load (slT strT);rfl)|(apply op_load (slT recVT);rfl)|(apply op_load seenT;rfl)|(apply op_len (xs:=a.holds);rfl)|(apply op_len (xs:=z.holds);rfl)|(exact bsO))|refine bsA ?_|(apply Lq.al;rfl;rfl;intro b)|(apply Open.cons;intro b)|(apply J.drawN;exact mixed;kernel_rfl)|refine bsC ?_)
    (refine J.ret ?_;(repeat (first|refine E.then_ret ?_|refine E.in_ret ?_)))
    exact E.ret1 rfl rfl
  by_cases h4:a.recs.length=z.recs.length
  case neg =>
    rw [seen_ne (.inr (.inr (.inr fun e=>h4 (by rw [e]))))]
    refine Fn.mk' 73 Tryd.func37 rfl rfl rfl rfl fun w0 H0=>?_
    repeat (first|((first|(apply Lq.s;rfl)|apply PRun.s|(apply Lq.run;rfl;rfl;rfl;exact bsB)|(apply PRun.run;rfl;rfl;exact bsB));first|(apply op_box seenT;rfl)|(apply op_faddr seen_name;rfl;decide)|(apply op_faddr seen_retain;rfl;decide)|(apply op_faddr seen_holds;rfl;decide)|(apply op_faddr seen_recs;rfl;decide)|(apply op_load strT;rfl)|(apply op_load (intT .i64);rfl)|(apply op_load (slT strT);rfl)|(apply op_load (slT recVT);rfl)|(apply op_load seenT;rfl)|(apply op_sneq (a:=a.name) (b:=z.name);rfl;rfl)|(exact bsO))|refine bsA ?_|(apply Lq.al;rfl;rfl;intro b)|(apply Open.cons;intro b)|(apply J.drawN;exact mixed;kernel_rfl)|refine bsC ?_)
    rw [hd]
    repeat (first|((first|(apply Lq.s;rfl)|apply PRun.s|(apply Lq.run;rfl;rfl;rfl;exact bsB)|(apply PRun.run;rfl;rfl;exact bsB));first|(apply op_box seenT;rfl)|(apply op_faddr seen_name;rfl;decide)|(apply op_faddr seen_retain;rfl;decide)|(apply op_faddr seen_holds;rfl;decide)|(apply op_faddr seen_recs;rfl;decide)|(apply op_load strT;rfl)|(apply op_load (intT .i64);rfl)|(apply op_load (slT strT);rfl)|(apply op_load (slT recVT);rfl)|(apply op_load seenT;rfl)|(apply op_len (xs:=a.holds);rfl)|(apply op_len (xs:=z.holds);rfl)|(apply op_len (xs:=a.recs);rfl)|(apply op_len (xs:=z.recs);rfl)|(exact bsO))|refine bsA ?_|(apply Lq.al;rfl;rfl;intro b)|(apply Open.cons;intro b)|(apply J.drawN;exact mixed;kernel_rfl)|refine bsC ?_)
    (refine J.ret ?_;(repeat (first|refine E.then_ret ?_|refine E.in_ret ?_)))
    exact E.ret1 rfl rfl
  refine Fn.mk' 73 Tryd.func37 rfl rfl rfl rfl fun w0 H0=>?_
  repeat (first|((first|(apply Lq.s;rfl)|apply PRun.s|(apply Lq.run;rfl;rfl;rfl;exact bsB)|(apply PRun.run;rfl;rfl;exact bsB));first|(apply op_box seenT;rfl)|(apply op_faddr seen_name;rfl;decide)|(apply op_faddr seen_retain;rfl;decide)|(apply op_faddr seen_holds;rfl;decide)|(apply op_faddr seen_recs;rfl;decide)|(apply op_load strT;rfl)|(apply op_load (intT .i64);rfl)|(apply op_load (slT strT);rfl)|(apply op_load (slT recVT);rfl)|(apply op_load seenT;rfl)|(apply op_sneq (a:=a.name) (b:=z.name);rfl;rfl)|(exact bsO))|refine bsA ?_|(apply Lq.al;rfl;rfl;intro b)|(apply Open.cons;intro b)|(apply J.drawN;exact mixed;kernel_rfl)|refine bsC ?_)
  rw [hd]
  repeat (first|((first|(apply Lq.s;rfl)|apply PRun.s|(apply Lq.run;rfl;rfl;rfl;exact bsB)|(apply PRun.run;rfl;rfl;exact bsB));first|(apply op_box seenT;rfl)|(apply op_faddr seen_name;rfl;decide)|(apply op_faddr seen_retain;rfl;decide)|(apply op_faddr seen_holds;rfl;decide)|(apply op_faddr seen_recs;rfl;decide)|(apply op_load strT;rfl)|(apply op_load (intT .i64);rfl)|(apply op_load (slT strT);rfl)|(apply op_load (slT recVT);rfl)|(apply op_load seenT;rfl)|(apply op_len (xs:=a.holds);rfl)|(apply op_len (xs:=z.holds);rfl)|(apply op_len (xs:=a.recs);rfl)|(apply op_len (xs:=z.recs);rfl)|(exact bsO))|refine bsA ?_|(apply Lq.al;rfl;rfl;intro b)|(apply Open.cons;intro b)|(apply J.drawN;exact mixed;kernel_rfl)|refine bsC ?_)
  refine J.loop (fun i:Nat=>i≤a.holds.length ∧ ∀ (j:Nat) (x y:Str),j < i→a.holds[j]?=some x→z.holds[j]?=some y→x=y) (fun i=>[(2,ptr (seenT.cells a)),(3,ptr (seenT.cells z)),(5,is (.int .i64 (i:Int)))]) (fun _=>[]) (fun i=>a.holds.length - i) 0 ⟨Nat.zero_le _,fun j x y hj=>by omega⟩ (Sub.same (by repeat' (first|exact trivial|refine ⟨rfl,?_⟩))) ?_
  rintro i ⟨hi,hp⟩
  by_cases hlt:i < a.holds.length
  · obtain ⟨x,hx⟩ : ∃ x,a.holds[i]?=some x:=⟨_,List.getElem?_eq_getElem hlt⟩
    obtain ⟨y,hy⟩ : ∃ y,z.holds[i]?=some y:=⟨_,List.getElem?_eq_getElem (by omega)⟩
    by_cases hxy:x=y
    · have hdx:decide (x=y)=true:=decide_eq_true hxy
      repeat (first|((first|(apply Lq.s;rfl)|apply PRun.s|(apply Lq.run;rfl;rfl;rfl;exact bsB)|(apply PRun.run;rfl;rfl;exact bsB));first|(apply op_box seenT;rfl)|(apply op_faddr seen_name;rfl;decide)|(apply op_faddr seen_retain;rfl;decide)|(apply op_faddr seen_holds;rfl;decide)|(apply op_faddr seen_recs;rfl;decide)|(apply op_load strT;rfl)|(apply op_load (intT .i64);rfl)|(apply op_load (slT strT);rfl)|(apply op_load (slT recVT);rfl)|(apply op_load seenT;rfl)|(apply op_len (xs:=a.holds);rfl)|(apply op_iaddr strT.toTy (x:=x);rfl;rfl;exact Int.natCast_nonneg _;(rw [Int.toNat_natCast];exact hx))|(apply op_iaddr strT.toTy (x:=y);rfl;rfl;exact Int.natCast_nonneg _;(rw [Int.toNat_natCast];exact hy))|(apply op_sneq (a:=x) (b:=y);rfl;rfl)|(exact bsO))|refine bsA ?_|(apply Lq.al;rfl;rfl;intro b)|(apply Open.cons;intro b)|(apply J.drawN;exact mixed;kernel_rfl)|refine bsC ?_)
      rw [hdx]
      repeat (first|((first|(apply Lq.s;rfl)|apply PRun.s|(apply Lq.run;rfl;rfl;rfl;exact bsB)|(apply PRun.run;rfl;rfl;exact bsB));first|(exact bsO))|refine bsA ?_|(apply Lq.al;rfl;rfl;intro b)|(apply Open.cons;intro b)|(apply J.drawN;exact mixed;kernel_rfl)|refine bsC ?_)
      refine E.again (i+1) (by omega) ⟨by omega,fun j u v hj hu hv=>?_⟩ (Sub.same (by repeat' (first|exact trivial|refine ⟨rfl,?_⟩)))
      rcases Nat.lt_or_eq_of_le (Nat.le_of_lt_succ hj) with h|rfl
      · exact hp j u v h hu hv
      · rw [hx] at hu;injection hu with hu;subst hu
        rw [hy] at hv;injection hv with hv;subst hv
        exact hxy
    · have hdx:decide (x=y)=false:=decide_eq_false hxy
      repeat (first|((first|(apply Lq.s;rfl)|apply PRun.s|(apply Lq.run;rfl;rfl;rfl;exact bsB)|(apply PRun.run;rfl;rfl;exact bsB));first|(apply op_box seenT;rfl)|(apply op_faddr seen_name;rfl;decide)|(apply op_faddr seen_retain;rfl;decide)|(apply op_faddr seen_holds;rfl;decide)|(apply op_faddr seen_recs;rfl;decide)|(apply op_load strT;rfl)|(apply op_load (intT .i64);rfl)|(apply op_load (slT strT);rfl)|(apply op_load (slT recVT);rfl)|(apply op_load seenT;rfl)|(apply op_len (xs:=a.holds);rfl)|(apply op_iaddr strT.toTy (x:=x);rfl;rfl;exact Int.natCast_nonneg _;(rw [Int.toNat_natCast];exact hx))|(apply op_iaddr strT.toTy (x:=y);rfl;rfl;exact Int.natCast_nonneg _;(rw [Int.toNat_natCast];exact hy))|(apply op_sneq (a:=x) (b:=y);rfl;rfl)|(exact bsO))|refine bsA ?_|(apply Lq.al;rfl;rfl;intro b)|(apply Open.cons;intro b)|(apply J.drawN;exact mixed;kernel_rfl)|refine bsC ?_)
      rw [hdx]
      repeat (first|((first|(apply Lq.s;rfl)|apply PRun.s|(apply Lq.run;rfl;rfl;rfl;exact bsB)|(apply PRun.run;rfl;rfl;exact bsB));first|(exact bsO))|refine bsA ?_|(apply Lq.al;rfl;rfl;intro b)|(apply Open.cons;intro b)|(apply J.drawN;exact mixed;kernel_rfl)|refine bsC ?_)
      (refine J.ret ?_;(repeat (first|refine E.then_ret ?_|refine E.in_ret ?_)))
      rw [seen_ne (.inr (.inr (.inl (ne_at i x y hx hy hxy))))]
      exact E.ret1 rfl rfl
  obtain rfl:i=a.holds.length:=by omega
  have h5:a.holds=z.holds:=ext_at h3 fun j x y hx hy=>hp j x y (List.getElem?_eq_some_iff.1 hx).1 hx hy
  repeat (first|((first|(apply Lq.s;rfl)|apply PRun.s|(apply Lq.run;rfl;rfl;rfl;exact bsB)|(apply PRun.run;rfl;rfl;exact bsB));first|(apply op_box seenT;rfl)|(apply op_faddr seen_name;rfl;decide)|(apply op_faddr seen_retain;rfl;decide)|(apply op_faddr seen_holds;rfl;decide)|(apply op_faddr seen_recs;rfl;decide)|(apply op_load strT;rfl)|(apply op_load (intT .i64);rfl)|(apply op_load (slT strT);rfl)|(apply op_load (slT recVT);rfl)|(apply op_load seenT;rfl)|(apply op_len (xs:=a.holds);rfl)|(exact bsO))|refine bsA ?_|(apply Lq.al;rfl;rfl;intro b)|(apply Open.cons;intro b)|(apply J.drawN;exact mixed;kernel_rfl)|refine bsC ?_)
  clear hp hlt hi
  refine J.loop (fun i:Nat=>i≤a.recs.length ∧ ∀ (j:Nat) (x y:RecV),j < i→a.recs[j]?=some x→z.recs[j]?=some y→x=y) (fun i=>[(2,ptr (seenT.cells a)),(3,ptr (seenT.cells z)),(6,is (.int .i64 (i:Int)))]) (fun _=>[]) (fun i=>a.recs.length - i) 0 ⟨Nat.zero_le _,fun j x y hj=>by omega⟩ (Sub.same (by repeat' (first|exact trivial|refine ⟨rfl,?_⟩))) ?_
  rintro i ⟨hi,hp⟩
  by_cases hlt:i < a.recs.length
  · obtain ⟨x,hx⟩ : ∃ x,a.recs[i]?=some x:=⟨_,List.getElem?_eq_getElem hlt⟩
    obtain ⟨y,hy⟩ : ∃ y,z.recs[i]?=some y:=⟨_,List.getElem?_eq_getElem (by omega)⟩
    by_cases hxy:x=y
    · repeat (first|((first|(apply Lq.s;rfl)|apply PRun.s|(apply Lq.run;rfl;rfl;rfl;exact bsB)|(apply PRun.run;rfl;rfl;exact bsB));first|(apply op_box seenT;rfl)|(apply op_faddr seen_name;rfl;decide)|(apply op_faddr seen_retain;rfl;decide)|(apply op_faddr seen_holds;rfl;decide)|(apply op_faddr seen_recs;rfl;decide)|(apply op_load strT;rfl)|(apply op_load (intT .i64);rfl)|(apply op_load (slT strT);rfl)|(apply op_load (slT recVT);rfl)|(apply op_load seenT;rfl)|(apply op_len (xs:=a.recs);rfl)|(apply op_load recVT;rfl)|(apply op_iaddr recVT.toTy (x:=x);rfl;rfl;exact Int.natCast_nonneg _;(rw [Int.toNat_natCast];exact hx))|(apply op_iaddr recVT.toTy (x:=y);rfl;rfl;exact Int.natCast_nonneg _;(rw [Int.toNat_natCast];exact hy))|(apply op_neA_f (T:=recVT) (m:=2) eqd_recv rfl rfl;rfl;rfl;exact hxy)|(exact bsO))|refine bsA ?_|(apply Lq.al;rfl;rfl;intro b)|(apply Open.cons;intro b)|(apply J.drawN;exact mixed;kernel_rfl)|refine bsC ?_)
      refine E.again (i+1) (by omega) ⟨by omega,fun j u v hj hu hv=>?_⟩ (Sub.same (by repeat' (first|exact trivial|refine ⟨rfl,?_⟩)))
      rcases Nat.lt_or_eq_of_le (Nat.le_of_lt_succ hj) with h|rfl
      · exact hp j u v h hu hv
      · rw [hx] at hu;injection hu with hu;subst hu
        rw [hy] at hv;injection hv with hv;subst hv
        exact hxy
    · repeat (first|((first|(apply Lq.s;rfl)|apply PRun.s|(apply Lq.run;rfl;rfl;rfl;exact bsB)|(apply PRun.run;rfl;rfl;exact bsB));first|(apply op_box seenT;rfl)|(apply op_faddr seen_name;rfl;decide)|(apply op_faddr seen_retain;rfl;decide)|(apply op_faddr seen_holds;rfl;decide)|(apply op_faddr seen_recs;rfl;decide)|(apply op_load strT;rfl)|(apply op_load (intT .i64);rfl)|(apply op_load (slT strT);rfl)|(apply op_load (slT recVT);rfl)|(apply op_load seenT;rfl)|(apply op_len (xs:=a.recs);rfl)|(apply op_load recVT;rfl)|(apply op_iaddr recVT.toTy (x:=x);rfl;rfl;exact Int.natCast_nonneg _;(rw [Int.toNat_natCast];exact hx))|(apply op_iaddr recVT.toTy (x:=y);rfl;rfl;exact Int.natCast_nonneg _;(rw [Int.toNat_natCast];exact hy))|(apply op_neA_t (T:=recVT) (m:=2) eqd_recv rfl rfl;rfl;rfl;exact hxy)|(exact bsO))|refine bsA ?_|(apply Lq.al;rfl;rfl;intro b)|(apply Open.cons;intro b)|(apply J.drawN;exact mixed;kernel_rfl)|refine bsC ?_)
      (refine J.ret ?_;(repeat (first|refine E.then_ret ?_|refine E.in_ret ?_)))
      rw [seen_ne (.inr (.inr (.inr (ne_at i x y hx hy hxy))))]
      exact E.ret1 rfl rfl
  · obtain rfl:i=a.recs.length:=by omega
    repeat (first|((first|(apply Lq.s;rfl)|apply PRun.s|(apply Lq.run;rfl;rfl;rfl;exact bsB)|(apply PRun.run;rfl;rfl;exact bsB));first|(apply op_box seenT;rfl)|(apply op_faddr seen_name;rfl;decide)|(apply op_faddr seen_retain;rfl;decide)|(apply op_faddr seen_holds;rfl;decide)|(apply op_faddr seen_recs;rfl;decide)|(apply op_load strT;rfl)|(apply op_load (intT .i64);rfl)|(apply op_load (slT strT);rfl)|(apply op_load (slT recVT);rfl)|(apply op_load seenT;rfl)|(apply op_len (xs:=a.recs);rfl)|(exact bsO))|refine bsA ?_|(apply Lq.al;rfl;rfl;intro b)|(apply Open.cons;intro b)|(apply J.drawN;exact mixed;kernel_rfl)|refine bsC ?_)
    (refine J.ret ?_;(repeat (first|refine E.then_ret ?_|refine E.in_ret ?_)))
    rw [seen_eq h1 h2 h5 (ext_at h4 fun j x y hx hy=>hp j x y (List.getElem?_eq_some_iff.1 hx).1 hx hy)]
    exact E.ret1 rfl rfl
theorem sameView_fn (a z:ViewV) (ha:GoodV a) (hz:GoodV z):Fn Tryd.prog 20 [viewT.val a,viewT.val z] (is (.bool (decide (a=z)))):=by
  have hla:=ha.1
  have hlz:=hz.1
  by_cases h1:a.clock=z.clock
  case neg =>
    rw [view_ne (.inl h1)]
    refine Fn.mk' 39 Tryd.func20 rfl rfl rfl rfl fun w0 H0=>?_
    repeat (first|((first|(apply Lq.s;rfl)|apply PRun.s|(apply Lq.run;rfl;rfl;rfl;exact bsB)|(apply PRun.run;rfl;rfl;exact bsB));first|(apply op_box viewT;rfl)|(apply op_faddr view_clock;rfl;decide)|(apply op_faddr view_streams;rfl;decide)|(apply op_load (intT .i64);rfl)|(apply op_load (slT seenT);rfl)|(apply op_load viewT;rfl)|(apply op_load seenT;rfl)|(exact bsO))|refine bsA ?_|(apply Lq.al;rfl;rfl;intro b)|(apply Open.cons;intro b)|(apply J.drawN;exact mixed;kernel_rfl)|refine bsC ?_)
    (refine J.ret ?_;(repeat (first|refine E.then_ret ?_|refine E.in_ret ?_)))
    exact E.ret1 rfl rfl
  by_cases h2:a.streams.length=z.streams.length
  case neg =>
    rw [view_ne (.inr fun e=>h2 (by rw [e]))]
    refine Fn.mk' 39 Tryd.func20 rfl rfl rfl rfl fun w0 H0=>?_
    repeat (first|((first|(apply Lq.s;rfl)|apply PRun.s|(apply Lq.run;rfl;rfl;rfl;exact bsB)|(apply PRun.run;rfl;rfl;exact bsB));first|(apply op_box viewT;rfl)|(apply op_faddr view_clock;rfl;decide)|(apply op_faddr view_streams;rfl;decide)|(apply op_load (intT .i64);rfl)|(apply op_load (slT seenT);rfl)|(apply op_load viewT;rfl)|(apply op_load seenT;rfl)|(apply op_len (xs:=a.streams);rfl)|(apply op_len (xs:=z.streams);rfl)|(exact bsO))|refine bsA ?_|(apply Lq.al;rfl;rfl;intro b)|(apply Open.cons;intro b)|(apply J.drawN;exact mixed;kernel_rfl)|refine bsC ?_)
    (refine J.ret ?_;(repeat (first|refine E.then_ret ?_|refine E.in_ret ?_)))
    exact E.ret1 rfl rfl
  refine Fn.mk' 39 Tryd.func20 rfl rfl rfl rfl fun w0 H0=>?_
  repeat (first|((first|(apply Lq.s;rfl)|apply PRun.s|(apply Lq.run;rfl;rfl;rfl;exact bsB)|(apply PRun.run;rfl;rfl;exact bsB));first|(apply op_box viewT;rfl)|(apply op_faddr view_clock;rfl;decide)|(apply op_faddr view_streams;rfl;decide)|(apply op_load (intT .i64);rfl)|(apply op_load (slT seenT);rfl)|(apply op_load viewT;rfl)|(apply op_load seenT;rfl)|(apply op_len (xs:=a.streams);rfl)|(apply op_len (xs:=z.streams);rfl)|(exact bsO))|refine bsA ?_|(apply Lq.al;rfl;rfl;intro b)|(apply Open.cons;intro b)|(apply J.drawN;exact mixed;kernel_rfl)|refine bsC ?_)
  refine J.loop (fun i:Nat=>i≤a.streams.length ∧ ∀ (j:Nat) (x y:SeenV),j < i→a.streams[j]?=some x→z.streams[j]?=some y→x=y) (fun i=>[(2,ptr (viewT.cells a)),(3,ptr (viewT.cells z)),(5,is (.int .i64 (i:Int)))]) (fun _=>[]) (fun i=>a.streams.length - i) 0 ⟨Nat.zero_le _,fun j x y hj=>by omega⟩ (Sub.same (by repeat' (first|exact trivial|refine ⟨rfl,?_⟩))) ?_
  rintro i ⟨hi,hp⟩
  by_cases hlt:i < a.streams.length
  · obtain ⟨x,hx⟩ : ∃ x,a.streams[i]?=some x:=⟨_,List.getElem?_eq_getElem hlt⟩
    obtain ⟨y,hy⟩ : ∃ y,z.streams[i]?=some y:=⟨_,List.getElem?_eq_getElem (by omega)⟩
    have hgx:=ha.2 x (List.mem_of_getElem? hx)
    have hgy:=hz.2 y (List.mem_of_getElem? hy)
    have hsf:=sameSeen_fn x y hgx hgy
    by_cases hxy:x=y
    · rw [decide_eq_true hxy] at hsf
      repeat (first|((first|(apply Lq.s;rfl)|apply PRun.s|(apply Lq.run;rfl;rfl;rfl;exact bsB)|(apply PRun.run;rfl;rfl;exact bsB));first|(apply op_box viewT;rfl)|(apply op_faddr view_clock;rfl;decide)|(apply op_faddr view_streams;rfl;decide)|(apply op_load (intT .i64);rfl)|(apply op_load (slT seenT);rfl)|(apply op_load viewT;rfl)|(apply op_load seenT;rfl)|(apply op_len (xs:=a.streams);rfl)|(apply op_iaddr seenT.toTy (x:=x);rfl;rfl;exact Int.natCast_nonneg _;(rw [Int.toNat_natCast];exact hx))|(apply op_iaddr seenT.toTy (x:=y);rfl;rfl;exact Int.natCast_nonneg _;(rw [Int.toNat_natCast];exact hy))|(apply op_call hsf;exact bsD)|(exact bsO))|refine bsA ?_|(apply Lq.al;rfl;rfl;intro b)|(apply Open.cons;intro b)|(apply J.drawN;exact mixed;kernel_rfl)|refine bsC ?_)
      refine E.again (i+1) (by omega) ⟨by omega,fun j u v hj hu hv=>?_⟩ (Sub.same (by repeat' (first|exact trivial|refine ⟨rfl,?_⟩)))
      rcases Nat.lt_or_eq_of_le (Nat.le_of_lt_succ hj) with h|rfl
      · exact hp j u v h hu hv
      · rw [hx] at hu;injection hu with hu;subst hu
        rw [hy] at hv;injection hv with hv;subst hv
        exact hxy
    · rw [decide_eq_false hxy] at hsf
      repeat (first|((first|(apply Lq.s;rfl)|apply PRun.s|(apply Lq.run;rfl;rfl;rfl;exact bsB)|(apply PRun.run;rfl;rfl;exact bsB));first|(apply op_box viewT;rfl)|(apply op_faddr view_clock;rfl;decide)|(apply op_faddr view_streams;rfl;decide)|(apply op_load (intT .i64);rfl)|(apply op_load (slT seenT);rfl)|(apply op_load viewT;rfl)|(apply op_load seenT;rfl)|(apply op_len (xs:=a.streams);rfl)|(apply op_iaddr seenT.toTy (x:=x);rfl;rfl;exact Int.natCast_nonneg _;(rw [Int.toNat_natCast];exact hx))|(apply op_iaddr seenT.toTy (x:=y);rfl;rfl;exact Int.natCast_nonneg _;(rw [Int.toNat_natCast];exact hy))|(apply op_call hsf;exact bsD)|(exact bsO))|refine bsA ?_|(apply Lq.al;rfl;rfl;intro b)|(apply Open.cons;intro b)|(apply J.drawN;exact mixed;kernel_rfl)|refine bsC ?_)
      (refine J.ret ?_;(repeat (first|refine E.then_ret ?_|refine E.in_ret ?_)))
      rw [view_ne (.inr (ne_at i x y hx hy hxy))]
      exact E.ret1 rfl rfl
  · obtain rfl:i=a.streams.length:=by omega
    repeat (first|((first|(apply Lq.s;rfl)|apply PRun.s|(apply Lq.run;rfl;rfl;rfl;exact bsB)|(apply PRun.run;rfl;rfl;exact bsB));first|(apply op_box viewT;rfl)|(apply op_faddr view_clock;rfl;decide)|(apply op_faddr view_streams;rfl;decide)|(apply op_load (intT .i64);rfl)|(apply op_load (slT seenT);rfl)|(apply op_load viewT;rfl)|(apply op_load seenT;rfl)|(apply op_len (xs:=a.streams);rfl)|(exact bsO))|refine bsA ?_|(apply Lq.al;rfl;rfl;intro b)|(apply Open.cons;intro b)|(apply J.drawN;exact mixed;kernel_rfl)|refine bsC ?_)
    (refine J.ret ?_;(repeat (first|refine E.then_ret ?_|refine E.in_ret ?_)))
    rw [view_eq h1 (ext_at h2 fun j x y hx hy=>hp j x y (List.getElem?_eq_some_iff.1 hx).1 hx hy)]
    exact E.ret1 rfl rfl
theorem beyond_fn (l:List StepS) (n:Int) (hl:l.length≤maxLen):Fn Tryd.prog 16 [sl stepT.toTy l,is (.int .i64 n)] (is (.bool (beyondL l n))):=by
  unfold maxLen at hl
  by_cases h1:n < (l.length:Int)
  · rw [show beyondL l n=true by unfold beyondL;rw [decide_eq_true h1];rfl]
    refine Fn.mk' 41 Tryd.func16 rfl rfl rfl rfl fun w0 H0=>?_
    repeat (first|((first|(apply Lq.s;rfl)|apply PRun.s|(apply Lq.run;rfl;rfl;rfl;exact bsB)|(apply PRun.run;rfl;rfl;exact bsB));first|(apply op_len (xs:=l);rfl)|(exact bsO))|refine bsA ?_|(apply Lq.al;rfl;rfl;intro b)|(apply Open.cons;intro b)|(apply J.drawN;exact mixed;kernel_rfl)|refine bsC ?_)
    (refine J.ret ?_;(repeat (first|refine E.then_ret ?_|refine E.in_ret ?_)))
    exact E.ret1 rfl rfl
  have hB:beyondL l n=l.any longStep:=by unfold beyondL;rw [decide_eq_false h1];rfl
  rw [hB]
  refine Fn.mk' 41 Tryd.func16 rfl rfl rfl rfl fun w0 H0=>?_
  repeat (first|((first|(apply Lq.s;rfl)|apply PRun.s|(apply Lq.run;rfl;rfl;rfl;exact bsB)|(apply PRun.run;rfl;rfl;exact bsB));first|(apply op_len (xs:=l);rfl)|(exact bsO))|refine bsA ?_|(apply Lq.al;rfl;rfl;intro b)|(apply Open.cons;intro b)|(apply J.drawN;exact mixed;kernel_rfl)|refine bsC ?_)
  refine J.loop (fun i:Nat=>i≤l.length ∧ ∀ (j:Nat) (s:StepS),j < i→l[j]?=some s→longStep s=false) (fun i=>[(0,sl stepT.toTy l),(5,is (.int .i64 (i:Int)))]) (fun _=>[]) (fun i=>l.length - i) 0 ⟨Nat.zero_le _,fun j s hj=>by omega⟩ (Sub.same (by repeat' (first|exact trivial|refine ⟨rfl,?_⟩))) ?_
  rintro i ⟨hi,hp⟩
  by_cases hlt:i < l.length
  · obtain ⟨s,hs⟩ : ∃ s,l[i]?=some s:=⟨_,List.getElem?_eq_getElem hlt⟩
    by_cases ht:400 < s.text.length
    · rw [any_t hs (show longStep s=true by unfold longStep;rw [decide_eq_true ht];rfl)]
      repeat (first|((first|(apply Lq.s;rfl)|apply PRun.s|(apply Lq.run;rfl;rfl;rfl;exact bsB)|(apply PRun.run;rfl;rfl;exact bsB));first|(apply op_len (xs:=l);rfl)|(apply op_iaddr stepT.toTy (x:=s);rfl;rfl;exact Int.natCast_nonneg _;(rw [Int.toNat_natCast];exact hs))|(apply op_faddr step_text;rfl;decide)|(apply op_faddr step_name;rfl;decide)|(apply op_faddr step_keep;rfl;decide)|(apply op_load strT;rfl)|(apply op_load (slT (intT .i64));rfl)|(apply op_len (xs:=s.keep);rfl)|(exact bsO))|refine bsA ?_|(apply Lq.al;rfl;rfl;intro b)|(apply Open.cons;intro b)|(apply J.drawN;exact mixed;kernel_rfl)|refine bsC ?_)
      (refine J.ret ?_;(repeat (first|refine E.then_ret ?_|refine E.in_ret ?_)))
      exact E.ret1 rfl rfl
    by_cases hn:100 < s.name.length
    · rw [any_t hs (show longStep s=true by unfold longStep;rw [decide_eq_true hn];simp)]
      repeat (first|((first|(apply Lq.s;rfl)|apply PRun.s|(apply Lq.run;rfl;rfl;rfl;exact bsB)|(apply PRun.run;rfl;rfl;exact bsB));first|(apply op_len (xs:=l);rfl)|(apply op_iaddr stepT.toTy (x:=s);rfl;rfl;exact Int.natCast_nonneg _;(rw [Int.toNat_natCast];exact hs))|(apply op_faddr step_text;rfl;decide)|(apply op_faddr step_name;rfl;decide)|(apply op_faddr step_keep;rfl;decide)|(apply op_load strT;rfl)|(apply op_load (slT (intT .i64));rfl)|(apply op_len (xs:=s.keep);rfl)|(exact bsO))|refine bsA ?_|(apply Lq.al;rfl;rfl;intro b)|(apply Open.cons;intro b)|(apply J.drawN;exact mixed;kernel_rfl)|refine bsC ?_)
      (refine J.ret ?_;(repeat (first|refine E.then_ret ?_|refine E.in_ret ?_)))
      exact E.ret1 rfl rfl
    by_cases hk:60 < s.keep.length
    · rw [any_t hs (show longStep s=true by unfold longStep;rw [decide_eq_true hk];simp)]
      repeat (first|((first|(apply Lq.s;rfl)|apply PRun.s|(apply Lq.run;rfl;rfl;rfl;exact bsB)|(apply PRun.run;rfl;rfl;exact bsB));first|(apply op_len (xs:=l);rfl)|(apply op_iaddr stepT.toTy (x:=s);rfl;rfl;exact Int.natCast_nonneg _;(rw [Int.toNat_natCast];exact hs))|(apply op_faddr step_text;rfl;decide)|(apply op_faddr step_name;rfl;decide)|(apply op_faddr step_keep;rfl;decide)|(apply op_load strT;rfl)|(apply op_load (slT (intT .i64));rfl)|(apply op_len (xs:=s.keep);rfl)|(exact bsO))|refine bsA ?_|(apply Lq.al;rfl;rfl;intro b)|(apply Open.cons;intro b)|(apply J.drawN;exact mixed;kernel_rfl)|refine bsC ?_)
      (refine J.ret ?_;(repeat (first|refine E.then_ret ?_|refine E.in_ret ?_)))
      exact E.ret1 rfl rfl
    have hls:longStep s=false:=by unfold longStep;rw [decide_eq_false ht,decide_eq_false hn,decide_eq_false hk];rfl
    repeat (first|((first|(apply Lq.s;rfl)|apply PRun.s|(apply Lq.run;rfl;rfl;rfl;exact bsB)|(apply PRun.run;rfl;rfl;exact bsB));first|(apply op_len (xs:=l);rfl)|(apply op_iaddr stepT.toTy (x:=s);rfl;rfl;exact Int.natCast_nonneg _;(rw [Int.toNat_natCast];exact hs))|(apply op_faddr step_text;rfl;decide)|(apply op_faddr step_name;rfl;decide)|(apply op_faddr step_keep;rfl;decide)|(apply op_load strT;rfl)|(apply op_load (slT (intT .i64));rfl)|(apply op_len (xs:=s.keep);rfl)|(exact bsO))|refine bsA ?_|(apply Lq.al;rfl;rfl;intro b)|(apply Open.cons;intro b)|(apply J.drawN;exact mixed;kernel_rfl)|refine bsC ?_)
    refine E.again (i+1) (by omega) ⟨by omega,fun j u hj hu=>?_⟩ (Sub.same (by repeat' (first|exact trivial|refine ⟨rfl,?_⟩)))
    rcases Nat.lt_or_eq_of_le (Nat.le_of_lt_succ hj) with h|rfl
    · exact hp j u h hu
    · rw [hs] at hu;injection hu with hu;subst hu;exact hls
  · obtain rfl:i=l.length:=by omega
    repeat (first|((first|(apply Lq.s;rfl)|apply PRun.s|(apply Lq.run;rfl;rfl;rfl;exact bsB)|(apply PRun.run;rfl;rfl;exact bsB));first|(apply op_len (xs:=l);rfl)|(exact bsO))|refine bsA ?_|(apply Lq.al;rfl;rfl;intro b)|(apply Open.cons;intro b)|(apply J.drawN;exact mixed;kernel_rfl)|refine bsC ?_)
    (refine J.ret ?_;(repeat (first|refine E.then_ret ?_|refine E.in_ret ?_)))
    rw [any_f fun j b hb=>hp j b (List.getElem?_eq_some_iff.1 hb).1 hb]
    exact E.ret1 rfl rfl
theorem beyond_ok {l:List StepS} {n:Int} (h:beyondL l n=false):(l.length:Int)≤n ∧ ∀ s ∈ l,s.text.length≤400∧s.name.length≤100:=by
  unfold beyondL at h
  rw [Bool.or_eq_false_iff] at h
  refine ⟨by have:=of_decide_eq_false h.1;omega,fun s hs=>?_⟩
  have:=List.any_eq_false.1 h.2 s hs
  unfold longStep at this
  simp at this
  omega
theorem mdoV {B:Nat} {m:MM} (x:StepS) (full:Bool) (hk:MOk m):FnV Tryd.prog 19 [is (.pointer (some ⟨B,0,none⟩)),stepT.val x,is (.bool full)] (mdV B m) (tup [is (.int .i64 (doM m x full).2.1),is (str []),is (.int .i64 (doM m x full).2.2)]) (mdV B (doM m x full).1):=by
  rintro _ ⟨A1,c1,xs1,A2,c2,xs2,hf,rfl⟩
  exact mdo_fnR x full hf hk
theorem mviewV {B:Nat} {m:MM} (hk:MOk m):FnV Tryd.prog 17 [is (.pointer (some ⟨B,0,none⟩))] (mdV B m) (tup [viewT.val (viewM m),is (.bool m.mnt)]) (mdV B m):=by
  rintro _ ⟨A1,c1,xs1,A2,c2,xs2,hf,rfl⟩
  exact (mView_fnR hf hk).to fun ψ Δ h=>⟨h.1,A1,c1,xs1,A2,c2,xs2,hf,h.2⟩
theorem msureV {B:Nat} {m:MM} (hk:MOk m):FnV Tryd.prog 18 [is (.pointer (some ⟨B,0,none⟩))] (mdV B m) (tup [viewT.val (sureM m),is (.bool m.fmt)]) (mdV B m):=by
  rintro _ ⟨A1,c1,xs1,A2,c2,xs2,hf,rfl⟩
  exact (mSure_fnR hf hk).to fun ψ Δ h=>⟨h.1,A1,c1,xs1,A2,c2,xs2,hf,h.2⟩
theorem mreadV {B:Nat} {m:MM} (x:Str) (i:Int) (hk:MOk m):FnV Tryd.prog 14 [is (.pointer (some ⟨B,0,none⟩)),is (str x),is (.int .i64 i)] (mdV B m) (tup [is (str (readM m x i).1),is (.int .i64 (readM m x i).2)]) (mdV B m):=by
  rintro _ ⟨A1,c1,xs1,A2,c2,xs2,hf,rfl⟩
  exact (mRead_fnR x i hf hk).to fun ψ Δ h=>⟨h.1,A1,c1,xs1,A2,c2,xs2,hf,h.2⟩
theorem mstatV {B:Nat} {m:MM} (x:Str) (hk:MOk m):FnV Tryd.prog 25 [is (.pointer (some ⟨B,0,none⟩)),is (str x)] (mdV B m) (tup [statVT.val (statMM m x).1,is (.int .i64 (statMM m x).2)]) (mdV B m):=by
  rintro _ ⟨A1,c1,xs1,A2,c2,xs2,hf,rfl⟩
  exact (mStat_fnR x hf hk).to fun ψ Δ h=>⟨h.1,A1,c1,xs1,A2,c2,xs2,hf,h.2⟩
theorem mhashesV {B:Nat} {m:MM} (x:Str) (hk:MOk m):FnV Tryd.prog 13 [is (.pointer (some ⟨B,0,none⟩)),is (str x)] (mdV B m) (tup [sl hashT.toTy (hashesM m x).1,is (.int .i64 (hashesM m x).2)]) (mdV B m):=by
  rintro _ ⟨A1,c1,xs1,A2,c2,xs2,hf,rfl⟩
  exact (mHashes_fnR x hf hk).to fun ψ Δ h=>⟨h.1,A1,c1,xs1,A2,c2,xs2,hf,h.2⟩
end Go.Proofs.YtljbbajelkkafaaDoor.L
