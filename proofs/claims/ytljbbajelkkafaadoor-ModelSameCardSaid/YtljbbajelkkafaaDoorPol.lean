/-
  The functions of package policy,walked: what each computes.
-/
import Derived.Test.YtljbbajelkkafaaDoorLz
namespace Go.Proofs.YtljbbajelkkafaaDoor.L
open Go
set_option linter.unusedSectionVars false
variable [Globs]
set_option linter.unusedVariables false
set_option linter.unusedSimpArgs false
attribute [local irreducible] J Lq E OpP PRun is any agg tup ptr sl

def timeB (n:Int):Bool:=decide (0≤n) && decide (n≤1073741824)
def timesM (l:List Int):Bool:=l.all timeB
theorem timesM_cons (n:Int) (r:List Int):timesM (n::r)=(timeB n && timesM r):=rfl
theorem timeB_t {n:Int} (h:0≤n) (h2:n≤1073741824):timeB n=true:=by unfold timeB;simp;omega
theorem timeB_f {n:Int} (h:n < 0 ∨ 1073741824 < n):timeB n=false:=by unfold timeB;simp;omega
theorem times_fn (l:List Int) (hl:l.length≤100):Fn Tryd.prog 59 [sl (intT .i64).toTy l] (is (.bool (timesM l))):=by
  refine Fn.mk' 18 Tryd.func59 rfl rfl rfl rfl fun w0 H0=>?_
  repeat (first|((first|(apply Lq.s;rfl)|apply PRun.s|(apply Lq.run;rfl;rfl;rfl;exact bsB)|(apply PRun.run;rfl;rfl;exact bsB));first|(exact bsO))|refine bsA ?_|(apply Lq.al;rfl;rfl;intro b)|(apply Open.cons;intro b)|(apply J.drawN;exact mixed;kernel_rfl)|refine bsC ?_)
  refine J.loop (fun k:Nat=>k≤l.length∧timesM l=timesM (l.drop k)) (fun k=>[(5,sl (intT .i64).toTy l),(6,is (.int .i64 (l.length:Int))),(7,is (.int .i64 (k:Int)))]) (fun _=>[]) (fun k=>l.length - k) 0 ⟨by omega,rfl⟩ ?_ ?_
  · exact (Sub.same (by repeat' (first|exact trivial|refine ⟨rfl,?_⟩)))
  rintro k ⟨hk,hm⟩
  repeat (first|((first|(apply Lq.s;rfl)|apply PRun.s|(apply Lq.run;rfl;rfl;rfl;exact bsB)|(apply PRun.run;rfl;rfl;exact bsB));first|(exact bsO))|refine bsA ?_|(apply Lq.al;rfl;rfl;intro b)|(apply Open.cons;intro b)|(apply J.drawN;exact mixed;kernel_rfl)|refine bsC ?_)
  (refine J.cond _ rfl (fun hb=>?_) (fun hb=>?_))
  · have hlt:k < l.length:=by have:=of_decide_eq_true hb;omega
    have hd:l.drop k=l[k]::l.drop (k+1):=List.drop_eq_getElem_cons hlt
    repeat (first|((first|(apply Lq.s;rfl)|apply PRun.s|(apply Lq.run;rfl;rfl;rfl;exact bsB)|(apply PRun.run;rfl;rfl;exact bsB));first|exact op_iaddr (intT .i64).toTy rfl rfl (by omega) (List.getElem?_eq_getElem hlt)|exact op_load (intT .i64) rfl|(exact bsO))|refine bsA ?_|(apply Lq.al;rfl;rfl;intro b)|(apply Open.cons;intro b)|(apply J.drawN;exact mixed;kernel_rfl)|refine bsC ?_)
    (first|refine Lq.split rfl rfl rfl (fun hb=>?_) (fun hb=>?_)|refine PRun.split rfl rfl rfl (fun hb=>?_) (fun hb=>?_))
    · repeat (first|((first|(apply Lq.s;rfl)|apply PRun.s|(apply Lq.run;rfl;rfl;rfl;exact bsB)|(apply PRun.run;rfl;rfl;exact bsB));first|(exact bsO))|refine bsA ?_|(apply Lq.al;rfl;rfl;intro b)|(apply Open.cons;intro b)|(apply J.drawN;exact mixed;kernel_rfl)|refine bsC ?_)
      (refine J.ret ?_;(repeat (first|refine E.then_ret ?_|refine E.in_ret ?_)))
      have hf:timesM l=false:=by rw [hm,hd,timesM_cons,timeB_f (by have:=of_decide_eq_true hb;omega)];rfl
      exact E.ret1 rfl (by rw [hf];rfl)
    · repeat (first|((first|(apply Lq.s;rfl)|apply PRun.s|(apply Lq.run;rfl;rfl;rfl;exact bsB)|(apply PRun.run;rfl;rfl;exact bsB));first|(exact bsO))|refine bsA ?_|(apply Lq.al;rfl;rfl;intro b)|(apply Open.cons;intro b)|(apply J.drawN;exact mixed;kernel_rfl)|refine bsC ?_)
      (refine J.cond _ rfl (fun hb=>?_) (fun hb=>?_))
      · repeat (first|((first|(apply Lq.s;rfl)|apply PRun.s|(apply Lq.run;rfl;rfl;rfl;exact bsB)|(apply PRun.run;rfl;rfl;exact bsB));first|(exact bsO))|refine bsA ?_|(apply Lq.al;rfl;rfl;intro b)|(apply Open.cons;intro b)|(apply J.drawN;exact mixed;kernel_rfl)|refine bsC ?_)
        (refine J.ret ?_;(repeat (first|refine E.then_ret ?_|refine E.in_ret ?_)))
        have hf:timesM l=false:=by rw [hm,hd,timesM_cons,timeB_f (by have:=of_decide_eq_true hb;omega)];rfl
        exact E.ret1 rfl (by rw [hf];rfl)
      · repeat (first|((first|(apply Lq.s;rfl)|apply PRun.s|(apply Lq.run;rfl;rfl;rfl;exact bsB)|(apply PRun.run;rfl;rfl;exact bsB));first|(exact bsO))|refine bsA ?_|(apply Lq.al;rfl;rfl;intro b)|(apply Open.cons;intro b)|(apply J.drawN;exact mixed;kernel_rfl)|refine bsC ?_)
        refine E.again (k+1) (by omega) ⟨by omega,?_⟩ (Sub.same (by repeat' (first|exact trivial|refine ⟨rfl,?_⟩)))
        rw [hm,hd,timesM_cons,timeB_t (by have:=of_decide_eq_false ‹decide (l[k] < 0)=false›;omega) (by have:=of_decide_eq_false hb;omega)]
        rfl
  · have hge:l.length≤k:=by have:=of_decide_eq_false hb;omega
    repeat (first|((first|(apply Lq.s;rfl)|apply PRun.s|(apply Lq.run;rfl;rfl;rfl;exact bsB)|(apply PRun.run;rfl;rfl;exact bsB));first|(exact bsO))|refine bsA ?_|(apply Lq.al;rfl;rfl;intro b)|(apply Open.cons;intro b)|(apply J.drawN;exact mixed;kernel_rfl)|refine bsC ?_)
    (refine J.ret ?_;(repeat (first|refine E.then_ret ?_|refine E.in_ret ?_)))
    have hf:timesM l=true:=by rw [hm,List.drop_eq_nil_of_le hge];rfl
    exact E.ret1 rfl (by rw [hf];rfl)

def errB (n:Int):Pr:=is (.int .i64 n)
def longerM (o n:Int):Int:=if timeB o && timeB n then (if n < o then 140 else 0) else 2
theorem timesM2 (a b:Int):timesM [a,b]=(timeB a && timeB b):=by simp [timesM]
theorem timesM1 (a:Int):timesM [a]=timeB a:=by simp [timesM]
theorem timesM3 (a b c:Int):timesM [a,b,c]=(timeB a && (timeB b && timeB c)):=by simp [timesM]
theorem timeB_iff {n:Int} (h:timeB n=true):0≤n∧n≤1073741824:=by unfold timeB at h;simpa using h
theorem longer_fn (o n:Int):Fn Tryd.prog 79 [is (.int .i64 o),is (.int .i64 n)] (is (.int .i64 (longerM o n))):=by
  refine Fn.mk' 15 Tryd.func79 rfl rfl rfl rfl fun w0 H0=>?_
  cases h:(timeB o && timeB n)
  · repeat (first|((first|(apply Lq.s;rfl)|apply PRun.s|(apply Lq.run;rfl;rfl;rfl;exact bsB)|(apply PRun.run;rfl;rfl;exact bsB));first|(apply op_call (times_fn [o,n] (Nat.le_of_ble_eq_true rfl));exact bsD)|(exact bsO))|refine bsA ?_|(apply Lq.al;rfl;rfl;intro b)|(apply Open.cons;intro b)|(apply J.drawN;exact mixed;kernel_rfl)|refine bsC ?_)
    rw [timesM2,h]
    repeat (first|((first|(apply Lq.s;rfl)|apply PRun.s|(apply Lq.run;rfl;rfl;rfl;exact bsB)|(apply PRun.run;rfl;rfl;exact bsB));first|(exact bsO))|refine bsA ?_|(apply Lq.al;rfl;rfl;intro b)|(apply Open.cons;intro b)|(apply J.drawN;exact mixed;kernel_rfl)|refine bsC ?_)
    (refine J.ret ?_;(repeat (first|refine E.then_ret ?_|refine E.in_ret ?_)))
    refine E.ret1 rfl ?_
    unfold longerM
    rw [h]
    rfl
  · repeat (first|((first|(apply Lq.s;rfl)|apply PRun.s|(apply Lq.run;rfl;rfl;rfl;exact bsB)|(apply PRun.run;rfl;rfl;exact bsB));first|(apply op_call (times_fn [o,n] (Nat.le_of_ble_eq_true rfl));exact bsD)|(exact bsO))|refine bsA ?_|(apply Lq.al;rfl;rfl;intro b)|(apply Open.cons;intro b)|(apply J.drawN;exact mixed;kernel_rfl)|refine bsC ?_)
    rw [timesM2,h]
    repeat (first|((first|(apply Lq.s;rfl)|apply PRun.s|(apply Lq.run;rfl;rfl;rfl;exact bsB)|(apply PRun.run;rfl;rfl;exact bsB));first|(exact bsO))|refine bsA ?_|(apply Lq.al;rfl;rfl;intro b)|(apply Open.cons;intro b)|(apply J.drawN;exact mixed;kernel_rfl)|refine bsC ?_)
    (refine J.cond _ rfl (fun hb=>?_) (fun hb=>?_))
    · repeat (first|((first|(apply Lq.s;rfl)|apply PRun.s|(apply Lq.run;rfl;rfl;rfl;exact bsB)|(apply PRun.run;rfl;rfl;exact bsB));first|(exact bsO))|refine bsA ?_|(apply Lq.al;rfl;rfl;intro b)|(apply Open.cons;intro b)|(apply J.drawN;exact mixed;kernel_rfl)|refine bsC ?_)
      (refine J.ret ?_;(repeat (first|refine E.then_ret ?_|refine E.in_ret ?_)))
      refine E.ret1 rfl ?_
      unfold longerM
      rw [h,if_pos rfl,if_pos (of_decide_eq_true hb)]
      rfl
    · repeat (first|((first|(apply Lq.s;rfl)|apply PRun.s|(apply Lq.run;rfl;rfl;rfl;exact bsB)|(apply PRun.run;rfl;rfl;exact bsB));first|(exact bsO))|refine bsA ?_|(apply Lq.al;rfl;rfl;intro b)|(apply Open.cons;intro b)|(apply J.drawN;exact mixed;kernel_rfl)|refine bsC ?_)
      (refine J.ret ?_;(repeat (first|refine E.then_ret ?_|refine E.in_ret ?_)))
      refine E.ret1 rfl ?_
      unfold longerM
      rw [h,if_pos rfl,if_neg (of_decide_eq_false hb)]
      rfl

def expiredM (t r c:Int):Bool:=timeB t && (timeB r && timeB c) && decide (r≤c - t)
theorem expired_fn (t r c:Int):Fn Tryd.prog 91 [is (.int .i64 t),is (.int .i64 r),is (.int .i64 c)] (is (.bool (expiredM t r c))):=by
  refine Fn.mk' 19 Tryd.func91 rfl rfl rfl rfl fun w0 H0=>?_
  cases h:(timeB t && (timeB r && timeB c))
  · repeat (first|((first|(apply Lq.s;rfl)|apply PRun.s|(apply Lq.run;rfl;rfl;rfl;exact bsB)|(apply PRun.run;rfl;rfl;exact bsB));first|(apply op_call (Fn.to (times_fn [t,r,c] (Nat.le_of_ble_eq_true rfl)) (show _=is (.bool false) by rw [timesM3,h]));exact bsD)|(exact bsO))|refine bsA ?_|(apply Lq.al;rfl;rfl;intro b)|(apply Open.cons;intro b)|(apply J.drawN;exact mixed;kernel_rfl)|refine bsC ?_)
    (refine J.ret ?_;(repeat (first|refine E.then_ret ?_|refine E.in_ret ?_)))
    refine E.ret1 rfl ?_
    unfold expiredM
    rw [h]
    rfl
  · have hb:=h
    rw [Bool.and_eq_true,Bool.and_eq_true] at hb
    have h1:=timeB_iff hb.1
    have h2:=timeB_iff hb.2.1
    have h3:=timeB_iff hb.2.2
    repeat (first|((first|(apply Lq.s;rfl)|apply PRun.s|(apply Lq.run;rfl;rfl;rfl;exact bsB)|(apply PRun.run;rfl;rfl;exact bsB));first|(apply op_call (Fn.to (times_fn [t,r,c] (Nat.le_of_ble_eq_true rfl)) (show _=is (.bool true) by rw [timesM3,h]));exact bsD)|(exact bsO))|refine bsA ?_|(apply Lq.al;rfl;rfl;intro b)|(apply Open.cons;intro b)|(apply J.drawN;exact mixed;kernel_rfl)|refine bsC ?_)
    (refine J.ret ?_;(repeat (first|refine E.then_ret ?_|refine E.in_ret ?_)))
    refine E.ret1 rfl ?_
    unfold expiredM
    rw [h]
    rfl
def mayM (r:Rec) (retain holds clock:Int):Int:=if r.shredded then 162 else if holds=0 then (if expiredM r.time retain clock then 0 else 141) else 142
theorem may_fn (r:Rec) (a h c:Int):Fn Tryd.prog 82 [recT.val r,is (.int .i64 a),is (.int .i64 h),is (.int .i64 c)] (is (.int .i64 (mayM r a h c))):=by
  refine Fn.mk' 37 Tryd.func82 rfl rfl rfl rfl fun w0 H0=>?_
  repeat (first|((first|(apply Lq.s;rfl)|apply PRun.s|(apply Lq.run;rfl;rfl;rfl;exact bsB)|(apply PRun.run;rfl;rfl;exact bsB));first|(apply op_call (expired_fn r.time a c);exact bsD)|(exact bsO))|refine bsA ?_|(apply Lq.al;rfl;rfl;intro b)|(apply Open.cons;intro b)|(apply J.drawN;exact mixed;kernel_rfl)|refine bsC ?_)
  refine J.loop (fun k:Nat=>k≤3∧(0 < k→r.shredded=false)∧(1 < k→h=0)∧(2 < k→expiredM r.time a c=true))
    (fun k=>[(9,is (.pointer (some ⟨b,0,none⟩))),(10,is (.int .i64 (k:Int)))])
    (fun _=>[own b 148 [is (.bool r.shredded),is (.int .i64 162),is (.bool (!decide (h=0))),is (.int .i64 142),is (.bool (!expiredM r.time a c)),is (.int .i64 141),is (.bool true),is (.int .i64 0)]]) (fun k=>3 - k) 0
    ⟨by omega,fun h=>by omega,fun h=>by omega,fun h=>by omega⟩ ?_ ?_
  · exact (Sub.same (by repeat' (first|exact trivial|refine ⟨rfl,?_⟩)))
  rintro k ⟨hk,h1,h2,h3⟩
  obtain rfl|rfl|rfl|rfl:k=0 ∨ k=1 ∨ k=2 ∨ k=3:=by omega
  · cases hs:r.shredded
    · repeat (first|((first|(apply Lq.s;rfl)|apply PRun.s|(apply Lq.run;rfl;rfl;rfl;exact bsB)|(apply PRun.run;rfl;rfl;exact bsB));first|(exact bsO))|refine bsA ?_|(apply Lq.al;rfl;rfl;intro b)|(apply Open.cons;intro b)|(apply J.drawN;exact mixed;kernel_rfl)|refine bsC ?_)
      exact E.again 1 (by omega) ⟨by omega,fun _=>rfl,fun h=>by omega,fun h=>by omega⟩ (Sub.same (by repeat' (first|exact trivial|refine ⟨rfl,?_⟩)))
    · repeat (first|((first|(apply Lq.s;rfl)|apply PRun.s|(apply Lq.run;rfl;rfl;rfl;exact bsB)|(apply PRun.run;rfl;rfl;exact bsB));first|(exact bsO))|refine bsA ?_|(apply Lq.al;rfl;rfl;intro b)|(apply Open.cons;intro b)|(apply J.drawN;exact mixed;kernel_rfl)|refine bsC ?_)
      (refine J.ret ?_;(repeat (first|refine E.then_ret ?_|refine E.in_ret ?_)))
      refine E.ret1 rfl ?_
      unfold mayM
      rw [hs]
      rfl
  · have hs:=h1 (by omega)
    by_cases hh:h=0
    · subst hh
      repeat (first|((first|(apply Lq.s;rfl)|apply PRun.s|(apply Lq.run;rfl;rfl;rfl;exact bsB)|(apply PRun.run;rfl;rfl;exact bsB));first|(exact bsO))|refine bsA ?_|(apply Lq.al;rfl;rfl;intro b)|(apply Open.cons;intro b)|(apply J.drawN;exact mixed;kernel_rfl)|refine bsC ?_)
      exact E.again 2 (by omega) ⟨by omega,fun _=>hs,fun _=>rfl,fun h=>by omega⟩ (Sub.same (by repeat' (first|exact trivial|refine ⟨rfl,?_⟩)))
    · have hd:decide (h=0)=false:=decide_eq_false hh
      rw [hd]
      repeat (first|((first|(apply Lq.s;rfl)|apply PRun.s|(apply Lq.run;rfl;rfl;rfl;exact bsB)|(apply PRun.run;rfl;rfl;exact bsB));first|(exact bsO))|refine bsA ?_|(apply Lq.al;rfl;rfl;intro b)|(apply Open.cons;intro b)|(apply J.drawN;exact mixed;kernel_rfl)|refine bsC ?_)
      (refine J.ret ?_;(repeat (first|refine E.then_ret ?_|refine E.in_ret ?_)))
      refine E.ret1 rfl ?_
      unfold mayM
      rw [hs,if_neg (by simp),if_neg hh]
      rfl
  · have hs:=h1 (by omega)
    have hh:=h2 (by omega)
    cases he:expiredM r.time a c
    · repeat (first|((first|(apply Lq.s;rfl)|apply PRun.s|(apply Lq.run;rfl;rfl;rfl;exact bsB)|(apply PRun.run;rfl;rfl;exact bsB));first|(exact bsO))|refine bsA ?_|(apply Lq.al;rfl;rfl;intro b)|(apply Open.cons;intro b)|(apply J.drawN;exact mixed;kernel_rfl)|refine bsC ?_)
      (refine J.ret ?_;(repeat (first|refine E.then_ret ?_|refine E.in_ret ?_)))
      refine E.ret1 rfl ?_
      unfold mayM
      rw [hs,if_neg (by simp),if_pos hh,he]
      rfl
    · repeat (first|((first|(apply Lq.s;rfl)|apply PRun.s|(apply Lq.run;rfl;rfl;rfl;exact bsB)|(apply PRun.run;rfl;rfl;exact bsB));first|(exact bsO))|refine bsA ?_|(apply Lq.al;rfl;rfl;intro b)|(apply Open.cons;intro b)|(apply J.drawN;exact mixed;kernel_rfl)|refine bsC ?_)
      exact E.again 3 (by omega) ⟨by omega,fun _=>hs,fun _=>hh,fun _=>rfl⟩ (Sub.same (by repeat' (first|exact trivial|refine ⟨rfl,?_⟩)))
  · have hs:=h1 (by omega)
    have hh:=h2 (by omega)
    have he:=h3 (by omega)
    repeat (first|((first|(apply Lq.s;rfl)|apply PRun.s|(apply Lq.run;rfl;rfl;rfl;exact bsB)|(apply PRun.run;rfl;rfl;exact bsB));first|(exact bsO))|refine bsA ?_|(apply Lq.al;rfl;rfl;intro b)|(apply Open.cons;intro b)|(apply J.drawN;exact mixed;kernel_rfl)|refine bsC ?_)
    (refine J.ret ?_;(repeat (first|refine E.then_ret ?_|refine E.in_ret ?_)))
    refine E.ret1 rfl ?_
    unfold mayM
    rw [hs,if_neg (by simp),if_pos hh,he]
    rfl

def tickM (c n:Int):Int × Int:=if timeB c && timeB n then (if timeB (c+n) then (c+n,0) else (0,3)) else (0,2)
def intP (n:Int):Pr:=is (.int .i64 n)
theorem tick_fn (c n:Int):Fn Tryd.prog 35 [is (.int .i64 c),is (.int .i64 n)] (tup [is (.int .i64 (tickM c n).1),is (.int .i64 (tickM c n).2)]):=by
  refine Fn.mk' 22 Tryd.func35 rfl rfl rfl rfl fun w0 H0=>?_
  cases h:(timeB c && timeB n)
  · repeat (first|((first|(apply Lq.s;rfl)|apply PRun.s|(apply Lq.run;rfl;rfl;rfl;exact bsB)|(apply PRun.run;rfl;rfl;exact bsB));first|(apply op_call (Fn.to (times_fn [c,n] (Nat.le_of_ble_eq_true rfl)) (show _=is (.bool false) by rw [timesM2,h]));exact bsD)|(exact bsO))|refine bsA ?_|(apply Lq.al;rfl;rfl;intro b)|(apply Open.cons;intro b)|(apply J.drawN;exact mixed;kernel_rfl)|refine bsC ?_)
    (refine J.ret ?_;(repeat (first|refine E.then_ret ?_|refine E.in_ret ?_)))
    have e:tickM c n=(0,2):=by unfold tickM;rw [h];rfl
    rw [e]
    exact E.ret2 rfl rfl rfl
  · have hb:=h
    rw [Bool.and_eq_true] at hb
    have h1:=timeB_iff hb.1
    have h2:=timeB_iff hb.2
    cases h3:timeB (c+n)
    · repeat (first|((first|(apply Lq.s;rfl)|apply PRun.s|(apply Lq.run;rfl;rfl;rfl;exact bsB)|(apply PRun.run;rfl;rfl;exact bsB));first|(apply op_call (Fn.to (times_fn [c,n] (Nat.le_of_ble_eq_true rfl)) (show _=is (.bool true) by rw [timesM2,h]));exact bsD)|(apply op_call (Fn.to (times_fn [c+n] (Nat.le_of_ble_eq_true rfl)) (show _=is (.bool false) by rw [timesM1,h3]));exact bsD)|(exact bsO))|refine bsA ?_|(apply Lq.al;rfl;rfl;intro b)|(apply Open.cons;intro b)|(apply J.drawN;exact mixed;kernel_rfl)|refine bsC ?_)
      (refine J.ret ?_;(repeat (first|refine E.then_ret ?_|refine E.in_ret ?_)))
      have e:tickM c n=(0,3):=by unfold tickM;rw [h,h3];rfl
      rw [e]
      exact E.ret2 rfl rfl rfl
    · repeat (first|((first|(apply Lq.s;rfl)|apply PRun.s|(apply Lq.run;rfl;rfl;rfl;exact bsB)|(apply PRun.run;rfl;rfl;exact bsB));first|(apply op_call (Fn.to (times_fn [c,n] (Nat.le_of_ble_eq_true rfl)) (show _=is (.bool true) by rw [timesM2,h]));exact bsD)|(apply op_call (Fn.to (times_fn [c+n] (Nat.le_of_ble_eq_true rfl)) (show _=is (.bool true) by rw [timesM1,h3]));exact bsD)|(exact bsO))|refine bsA ?_|(apply Lq.al;rfl;rfl;intro b)|(apply Open.cons;intro b)|(apply J.drawN;exact mixed;kernel_rfl)|refine bsC ?_)
      (refine J.ret ?_;(repeat (first|refine E.then_ret ?_|refine E.in_ret ?_)))
      have e:tickM c n=(c+n,0):=by unfold tickM;rw [h,h3];rfl
      rw [e]
      exact E.ret2 rfl rfl rfl

end Go.Proofs.YtljbbajelkkafaaDoor.L
