/-
  The document's answers of layer 14,walked: they are what the program computes.
-/
import Derived.Test.YtljbbajelkkafaaDoorPol
namespace Go.Proofs.YtljbbajelkkafaaDoor.L
open Go
set_option linter.unusedSectionVars false
variable [Globs]
set_option linter.unusedVariables false
set_option linter.unusedSimpArgs false
attribute [local irreducible] J Lq E OpP PRun is any agg tup ptr sl
theorem rtime_fn (n:Int):Fn Tryd.prog 67 [is (.int .i64 n)] (is (.bool (timeB n))):=by
  refine Fn.mk' 9 Tryd.func67 rfl rfl rfl rfl fun w0 H0=>?_
  repeat (first|((first|(apply Lq.s;rfl)|apply PRun.s|(apply Lq.run;rfl;rfl;rfl;exact bsB)|(apply PRun.run;rfl;rfl;exact bsB));first|(exact bsO))|refine bsA ?_|(apply Lq.al;rfl;rfl;intro b)|(apply Open.cons;intro b)|(apply J.drawN;exact mixed;kernel_rfl)|refine bsC ?_)
  (first|refine Lq.split rfl rfl rfl (fun hb=>?_) (fun hb=>?_)|refine PRun.split rfl rfl rfl (fun hb=>?_) (fun hb=>?_))
  all_goals
    repeat (first|((first|(apply Lq.s;rfl)|apply PRun.s|(apply Lq.run;rfl;rfl;rfl;exact bsB)|(apply PRun.run;rfl;rfl;exact bsB));first|(exact bsO))|refine bsA ?_|(apply Lq.al;rfl;rfl;intro b)|(apply Open.cons;intro b)|(apply J.drawN;exact mixed;kernel_rfl)|refine bsC ?_)
    (refine J.ret ?_;(repeat (first|refine E.then_ret ?_|refine E.in_ret ?_)))
    refine E.ret1 rfl ?_
    unfold timeB
    rw [hb]
    rfl
theorem rtime_t {n:Int} (h:timeB n=true):Fn Tryd.prog 67 [is (.int .i64 n)] (is (.bool true)):=(rtime_fn n).to (by rw [h])
theorem rtime_f {n:Int} (h:timeB n=false):Fn Tryd.prog 67 [is (.int .i64 n)] (is (.bool false)):=(rtime_fn n).to (by rw [h])
theorem rlonger_fn (o n:Int):Fn Tryd.prog 83 [is (.int .i64 o),is (.int .i64 n)] (is (.int .i64 (longerM o n))):=by
  refine Fn.mk' 16 Tryd.func83 rfl rfl rfl rfl fun w0 H0=>?_
  cases h1:timeB o
  · repeat (first|((first|(apply Lq.s;rfl)|apply PRun.s|(apply Lq.run;rfl;rfl;rfl;exact bsB)|(apply PRun.run;rfl;rfl;exact bsB));first|(apply op_call (rtime_f h1);exact bsD)|(exact bsO))|refine bsA ?_|(apply Lq.al;rfl;rfl;intro b)|(apply Open.cons;intro b)|(apply J.drawN;exact mixed;kernel_rfl)|refine bsC ?_)
    (refine J.ret ?_;(repeat (first|refine E.then_ret ?_|refine E.in_ret ?_)))
    exact E.ret1 rfl (by unfold longerM;rw [h1];rfl)
  cases h2:timeB n
  · repeat (first|((first|(apply Lq.s;rfl)|apply PRun.s|(apply Lq.run;rfl;rfl;rfl;exact bsB)|(apply PRun.run;rfl;rfl;exact bsB));first|(apply op_call (rtime_t h1);exact bsD)|(apply op_call (rtime_f h2);exact bsD)|(exact bsO))|refine bsA ?_|(apply Lq.al;rfl;rfl;intro b)|(apply Open.cons;intro b)|(apply J.drawN;exact mixed;kernel_rfl)|refine bsC ?_)
    (refine J.ret ?_;(repeat (first|refine E.then_ret ?_|refine E.in_ret ?_)))
    exact E.ret1 rfl (by unfold longerM;rw [h1,h2];rfl)
  repeat (first|((first|(apply Lq.s;rfl)|apply PRun.s|(apply Lq.run;rfl;rfl;rfl;exact bsB)|(apply PRun.run;rfl;rfl;exact bsB));first|(apply op_call (rtime_t h1);exact bsD)|(apply op_call (rtime_t h2);exact bsD)|(exact bsO))|refine bsA ?_|(apply Lq.al;rfl;rfl;intro b)|(apply Open.cons;intro b)|(apply J.drawN;exact mixed;kernel_rfl)|refine bsC ?_)
  (refine J.cond _ rfl (fun hb=>?_) (fun hb=>?_))
  · repeat (first|((first|(apply Lq.s;rfl)|apply PRun.s|(apply Lq.run;rfl;rfl;rfl;exact bsB)|(apply PRun.run;rfl;rfl;exact bsB));first|(exact bsO))|refine bsA ?_|(apply Lq.al;rfl;rfl;intro b)|(apply Open.cons;intro b)|(apply J.drawN;exact mixed;kernel_rfl)|refine bsC ?_)
    (refine J.ret ?_;(repeat (first|refine E.then_ret ?_|refine E.in_ret ?_)))
    exact E.ret1 rfl (by unfold longerM;rw [h1,h2,if_pos (of_decide_eq_true hb)];rfl)
  · repeat (first|((first|(apply Lq.s;rfl)|apply PRun.s|(apply Lq.run;rfl;rfl;rfl;exact bsB)|(apply PRun.run;rfl;rfl;exact bsB));first|(exact bsO))|refine bsA ?_|(apply Lq.al;rfl;rfl;intro b)|(apply Open.cons;intro b)|(apply J.drawN;exact mixed;kernel_rfl)|refine bsC ?_)
    (refine J.ret ?_;(repeat (first|refine E.then_ret ?_|refine E.in_ret ?_)))
    exact E.ret1 rfl (by unfold longerM;rw [h1,h2,if_neg (of_decide_eq_false hb)];rfl)
theorem rexpired_fn (t r c:Int):Fn Tryd.prog 92 [is (.int .i64 t),is (.int .i64 r),is (.int .i64 c)] (is (.bool (expiredM t r c))):=by
  refine Fn.mk' 24 Tryd.func92 rfl rfl rfl rfl fun w0 H0=>?_
  cases h1:timeB t
  · repeat (first|((first|(apply Lq.s;rfl)|apply PRun.s|(apply Lq.run;rfl;rfl;rfl;exact bsB)|(apply PRun.run;rfl;rfl;exact bsB));first|(apply op_call (rtime_f h1);exact bsD)|(exact bsO))|refine bsA ?_|(apply Lq.al;rfl;rfl;intro b)|(apply Open.cons;intro b)|(apply J.drawN;exact mixed;kernel_rfl)|refine bsC ?_)
    (refine J.ret ?_;(repeat (first|refine E.then_ret ?_|refine E.in_ret ?_)))
    exact E.ret1 rfl (by unfold expiredM;rw [h1];rfl)
  cases h2:timeB r
  · repeat (first|((first|(apply Lq.s;rfl)|apply PRun.s|(apply Lq.run;rfl;rfl;rfl;exact bsB)|(apply PRun.run;rfl;rfl;exact bsB));first|(apply op_call (rtime_t h1);exact bsD)|(apply op_call (rtime_f h2);exact bsD)|(exact bsO))|refine bsA ?_|(apply Lq.al;rfl;rfl;intro b)|(apply Open.cons;intro b)|(apply J.drawN;exact mixed;kernel_rfl)|refine bsC ?_)
    (refine J.ret ?_;(repeat (first|refine E.then_ret ?_|refine E.in_ret ?_)))
    exact E.ret1 rfl (by unfold expiredM;rw [h1,h2];rfl)
  cases h3:timeB c
  · repeat (first|((first|(apply Lq.s;rfl)|apply PRun.s|(apply Lq.run;rfl;rfl;rfl;exact bsB)|(apply PRun.run;rfl;rfl;exact bsB));first|(apply op_call (rtime_t h1);exact bsD)|(apply op_call (rtime_t h2);exact bsD)|(apply op_call (rtime_f h3);exact bsD)|(exact bsO))|refine bsA ?_|(apply Lq.al;rfl;rfl;intro b)|(apply Open.cons;intro b)|(apply J.drawN;exact mixed;kernel_rfl)|refine bsC ?_)
    (refine J.ret ?_;(repeat (first|refine E.then_ret ?_|refine E.in_ret ?_)))
    exact E.ret1 rfl (by unfold expiredM;rw [h1,h2,h3];rfl)
  have k1:=timeB_iff h1
  have k2:=timeB_iff h2
  have k3:=timeB_iff h3
  repeat (first|((first|(apply Lq.s;rfl)|apply PRun.s|(apply Lq.run;rfl;rfl;rfl;exact bsB)|(apply PRun.run;rfl;rfl;exact bsB));first|(apply op_call (rtime_t h1);exact bsD)|(apply op_call (rtime_t h2);exact bsD)|(apply op_call (rtime_t h3);exact bsD)|(exact bsO))|refine bsA ?_|(apply Lq.al;rfl;rfl;intro b)|(apply Open.cons;intro b)|(apply J.drawN;exact mixed;kernel_rfl)|refine bsC ?_)
  (refine J.ret ?_;(repeat (first|refine E.then_ret ?_|refine E.in_ret ?_)))
  refine E.ret1 rfl ?_
  have e:decide (t+r≤c)=expiredM t r c:=by
    unfold expiredM
    rw [h1,h2,h3,Bool.and_self,Bool.and_self,Bool.true_and]
    exact decide_eq_decide.2 (by omega)
  rw [← e]
  rfl
theorem rmay_fn (r:Rec) (a h c:Int):Fn Tryd.prog 84 [recT.val r,is (.int .i64 a),is (.int .i64 h),is (.int .i64 c)] (is (.int .i64 (mayM r a h c))):=by
  refine Fn.mk' 19 Tryd.func84 rfl rfl rfl rfl fun w0 H0=>?_
  cases hs:r.shredded
  · repeat (first|((first|(apply Lq.s;rfl)|apply PRun.s|(apply Lq.run;rfl;rfl;rfl;exact bsB)|(apply PRun.run;rfl;rfl;exact bsB));first|(exact bsO))|refine bsA ?_|(apply Lq.al;rfl;rfl;intro b)|(apply Open.cons;intro b)|(apply J.drawN;exact mixed;kernel_rfl)|refine bsC ?_)
    rw [hs]
    repeat (first|((first|(apply Lq.s;rfl)|apply PRun.s|(apply Lq.run;rfl;rfl;rfl;exact bsB)|(apply PRun.run;rfl;rfl;exact bsB));first|(exact bsO))|refine bsA ?_|(apply Lq.al;rfl;rfl;intro b)|(apply Open.cons;intro b)|(apply J.drawN;exact mixed;kernel_rfl)|refine bsC ?_)
    by_cases hh:h=0
    · subst hh
      repeat (first|((first|(apply Lq.s;rfl)|apply PRun.s|(apply Lq.run;rfl;rfl;rfl;exact bsB)|(apply PRun.run;rfl;rfl;exact bsB));first|(exact bsO))|refine bsA ?_|(apply Lq.al;rfl;rfl;intro b)|(apply Open.cons;intro b)|(apply J.drawN;exact mixed;kernel_rfl)|refine bsC ?_)
      cases he:expiredM r.time a c
      · repeat (first|((first|(apply Lq.s;rfl)|apply PRun.s|(apply Lq.run;rfl;rfl;rfl;exact bsB)|(apply PRun.run;rfl;rfl;exact bsB));first|(apply op_call ((rexpired_fn r.time a c).to (show _=is (.bool false) by rw [he]));exact bsD)|(exact bsO))|refine bsA ?_|(apply Lq.al;rfl;rfl;intro b)|(apply Open.cons;intro b)|(apply J.drawN;exact mixed;kernel_rfl)|refine bsC ?_)
        (refine J.ret ?_;(repeat (first|refine E.then_ret ?_|refine E.in_ret ?_)))
        exact E.ret1 rfl (by unfold mayM;rw [hs,he];rfl)
      · repeat (first|((first|(apply Lq.s;rfl)|apply PRun.s|(apply Lq.run;rfl;rfl;rfl;exact bsB)|(apply PRun.run;rfl;rfl;exact bsB));first|(apply op_call ((rexpired_fn r.time a c).to (show _=is (.bool true) by rw [he]));exact bsD)|(exact bsO))|refine bsA ?_|(apply Lq.al;rfl;rfl;intro b)|(apply Open.cons;intro b)|(apply J.drawN;exact mixed;kernel_rfl)|refine bsC ?_)
        (refine J.ret ?_;(repeat (first|refine E.then_ret ?_|refine E.in_ret ?_)))
        exact E.ret1 rfl (by unfold mayM;rw [hs,he];rfl)
    · have hd:decide (h=0)=false:=decide_eq_false hh
      rw [hd]
      repeat (first|((first|(apply Lq.s;rfl)|apply PRun.s|(apply Lq.run;rfl;rfl;rfl;exact bsB)|(apply PRun.run;rfl;rfl;exact bsB));first|(exact bsO))|refine bsA ?_|(apply Lq.al;rfl;rfl;intro b)|(apply Open.cons;intro b)|(apply J.drawN;exact mixed;kernel_rfl)|refine bsC ?_)
      (refine J.ret ?_;(repeat (first|refine E.then_ret ?_|refine E.in_ret ?_)))
      exact E.ret1 rfl (by unfold mayM;rw [hs,if_neg (by simp),if_neg hh];rfl)
  · repeat (first|((first|(apply Lq.s;rfl)|apply PRun.s|(apply Lq.run;rfl;rfl;rfl;exact bsB)|(apply PRun.run;rfl;rfl;exact bsB));first|(exact bsO))|refine bsA ?_|(apply Lq.al;rfl;rfl;intro b)|(apply Open.cons;intro b)|(apply J.drawN;exact mixed;kernel_rfl)|refine bsC ?_)
    rw [hs]
    repeat (first|((first|(apply Lq.s;rfl)|apply PRun.s|(apply Lq.run;rfl;rfl;rfl;exact bsB)|(apply PRun.run;rfl;rfl;exact bsB));first|(exact bsO))|refine bsA ?_|(apply Lq.al;rfl;rfl;intro b)|(apply Open.cons;intro b)|(apply J.drawN;exact mixed;kernel_rfl)|refine bsC ?_)
    (refine J.ret ?_;(repeat (first|refine E.then_ret ?_|refine E.in_ret ?_)))
    exact E.ret1 rfl (by unfold mayM;rw [hs];rfl)
theorem rtick_fn (c n:Int):Fn Tryd.prog 40 [is (.int .i64 c),is (.int .i64 n)] (tup [is (.int .i64 (tickM c n).1),is (.int .i64 (tickM c n).2)]):=by
  refine Fn.mk' 22 Tryd.func40 rfl rfl rfl rfl fun w0 H0=>?_
  cases h1:timeB c
  · repeat (first|((first|(apply Lq.s;rfl)|apply PRun.s|(apply Lq.run;rfl;rfl;rfl;exact bsB)|(apply PRun.run;rfl;rfl;exact bsB));first|(apply op_call (rtime_f h1);exact bsD)|(exact bsO))|refine bsA ?_|(apply Lq.al;rfl;rfl;intro b)|(apply Open.cons;intro b)|(apply J.drawN;exact mixed;kernel_rfl)|refine bsC ?_)
    (refine J.ret ?_;(repeat (first|refine E.then_ret ?_|refine E.in_ret ?_)))
    have e:tickM c n=(0,2):=by unfold tickM;rw [h1];rfl
    rw [e]
    exact E.ret2 rfl rfl rfl
  cases h2:timeB n
  · repeat (first|((first|(apply Lq.s;rfl)|apply PRun.s|(apply Lq.run;rfl;rfl;rfl;exact bsB)|(apply PRun.run;rfl;rfl;exact bsB));first|(apply op_call (rtime_t h1);exact bsD)|(apply op_call (rtime_f h2);exact bsD)|(exact bsO))|refine bsA ?_|(apply Lq.al;rfl;rfl;intro b)|(apply Open.cons;intro b)|(apply J.drawN;exact mixed;kernel_rfl)|refine bsC ?_)
    (refine J.ret ?_;(repeat (first|refine E.then_ret ?_|refine E.in_ret ?_)))
    have e:tickM c n=(0,2):=by unfold tickM;rw [h1,h2];rfl
    rw [e]
    exact E.ret2 rfl rfl rfl
  have k1:=timeB_iff h1
  have k2:=timeB_iff h2
  cases h3:timeB (c+n)
  · repeat (first|((first|(apply Lq.s;rfl)|apply PRun.s|(apply Lq.run;rfl;rfl;rfl;exact bsB)|(apply PRun.run;rfl;rfl;exact bsB));first|(apply op_call (rtime_t h1);exact bsD)|(apply op_call (rtime_t h2);exact bsD)|(apply op_call (rtime_f h3);exact bsD)|(exact bsO))|refine bsA ?_|(apply Lq.al;rfl;rfl;intro b)|(apply Open.cons;intro b)|(apply J.drawN;exact mixed;kernel_rfl)|refine bsC ?_)
    (refine J.ret ?_;(repeat (first|refine E.then_ret ?_|refine E.in_ret ?_)))
    have e:tickM c n=(0,3):=by unfold tickM;rw [h1,h2,h3];rfl
    rw [e]
    exact E.ret2 rfl rfl rfl
  · repeat (first|((first|(apply Lq.s;rfl)|apply PRun.s|(apply Lq.run;rfl;rfl;rfl;exact bsB)|(apply PRun.run;rfl;rfl;exact bsB));first|(apply op_call (rtime_t h1);exact bsD)|(apply op_call (rtime_t h2);exact bsD)|(apply op_call (rtime_t h3);exact bsD)|(exact bsO))|refine bsA ?_|(apply Lq.al;rfl;rfl;intro b)|(apply Open.cons;intro b)|(apply J.drawN;exact mixed;kernel_rfl)|refine bsC ?_)
    (refine J.ret ?_;(repeat (first|refine E.then_ret ?_|refine E.in_ret ?_)))
    have e:tickM c n=(c+n,0):=by unfold tickM;rw [h1,h2,h3];rfl
    rw [e]
    exact E.ret2 rfl rfl rfl
end Go.Proofs.YtljbbajelkkafaaDoor.L
