/-
  The chapter's steps;models that are none: the law ModelNone.
-/
import Derived.Test.YtljbbajelkkafaaDoorMk
namespace Go.Proofs.YtljbbajelkkafaaDoor.L
open Go
set_option linter.unusedSectionVars false
variable [Globs] [Has_sha_table] [Has_sha_begin]
set_option linter.unusedVariables false
theorem star_topM {V:VS} {Δ:List Res} (h:V Δ):star V top Δ:=⟨Δ,[],h,trivial,by rw [List.append_nil]⟩
theorem op_pnilM {P:Program} {Γ:Env} {Δ:List Res} {d:Option Nat} {ty:Nat} {pos:String} {af:Array Edge} {g:Option (Nat × Bool)} {x:Operand} {φs:List Pr} (h:opd Γ x=some (ptr φs)):OpP P Γ Δ ⟨d, .nilCheck x,ty,pos,af,g⟩ (ptr φs) :=
  OpP.same fun H A w hx hs=>by
    obtain ⟨b,o,hv,hc⟩:=hx x (by simp [Op.operands]) _ h
    refine ⟨.pointer (some ⟨b,o,none⟩),?_,b,o,rfl,hc⟩
    simp only [execOp,hv]
    rfl
section
variable {P:Program} {Γ:Env} {Δ:List Res} {d:Option Nat} {ty t yt:Nat} {pos:String} {af:Array Edge} {g:Option (Nat × Bool)} {x y:Operand}
theorem op_sneF {a b:Str} (h1:opd Γ x=some (is (str a))) (h2:opd Γ y=some (is (str b))) (h:a=b):OpP P Γ Δ ⟨d, .binOp .neq t x y yt,ty,pos,af,g⟩ (is (.bool false)):=by
  have:=op_sneq (P:=P) (Δ:=Δ) (d:=d) (ty:=ty) (pos:=pos) (af:=af) (g:=g) (t:=t) (yt:=yt) h1 h2
  rwa [decide_eq_true h] at this
theorem op_sneT {a b:Str} (h1:opd Γ x=some (is (str a))) (h2:opd Γ y=some (is (str b))) (h:a ≠ b):OpP P Γ Δ ⟨d, .binOp .neq t x y yt,ty,pos,af,g⟩ (is (.bool true)):=by
  have:=op_sneq (P:=P) (Δ:=Δ) (d:=d) (ty:=ty) (pos:=pos) (af:=af) (g:=g) (t:=t) (yt:=yt) h1 h2
  rwa [decide_eq_false h] at this
end
def zmT:Td Unit where
  sz:=8
  cells _:=[is (.bool false),is (.bool false),is (.bool false),is (.int .i64 0),is (.slice none 0 0),is (.int .i64 0),is (.slice none 0 0),is (.int .i64 0)]
  len _:=rfl
  ag:=true
  one h:=by cases h
  sc x H v h _:=by cases h
  pos:=by decide
theorem zm_made:Fld zmT.toTy boolT.toTy (fun _=>false) 0:=⟨fun s=>⟨[],_,rfl,rfl⟩⟩
def sp26 (k n:Int) (t:Str):StepS:=⟨k,n,[97],t,[]⟩
theorem sp26_conv (x:Str) (k n:Int) (t:Str) : ∀ H,All2 (fun (p q:Pr) => ∀ v,p.h H v→q.h H v) [is (.int .i64 k),is (.int .i64 n),is (str x),is (str t),is (.slice none 0 0)] (stepT.cells ⟨k,n,x,t,[]⟩):=fun H=>⟨fun _ h=>h,fun _ h=>h,fun _ h=>h,fun _ h=>h,fun v h=>sl_nil H v h,trivial⟩
/-! The chapter's states. -/
def hxyz:Hash:=leafH [120,121,122]
def hx1:Hash:=leafH [120]
def cA:MSt:=⟨0,[⟨[97],0,[],[]⟩]⟩
def cB:MSt:=⟨0,[⟨[97],0,[],[⟨0,[120,121,122],false,hxyz⟩]⟩]⟩
def cC:MSt:=⟨0,[⟨[97],0,[],[⟨0,[],true,hxyz⟩]⟩]⟩
def cD:MSt:=⟨0,[⟨[97],0,[],[⟨0,[],true,hxyz⟩,⟨0,[120],false,hx1⟩]⟩]⟩
def v1:MM:=⟨true,false,emptyS,emptyS,0⟩
def v2:MM:=⟨true,true,emptyS,emptyS,0⟩
def v3:MM:=⟨true,true,emptyS,cA,1⟩
def v4:MM:=⟨true,true,emptyS,cB,2⟩
def v5:MM:=⟨true,true,cB,cB,0⟩
def v6:MM:=⟨true,true,cC,cC,0⟩
def v7:MM:=⟨true,true,cC,cD,1⟩
def v8:MM:=⟨true,false,cC,cC,0⟩
def v9:MM:=⟨true,true,cC,cC,0⟩
theorem st0:doM newMM (sp26 2 0 []) false=(newMM,0,4):=by kernel_rfl
theorem st1:doM newMM (sp26 1 0 []) false=(v1,0,0):=by kernel_rfl
theorem st2:doM v1 (sp26 1 0 []) false=(v1,0,160):=by kernel_rfl
theorem st3:doM v1 (sp26 2 0 []) false=(v2,0,0):=by kernel_rfl
theorem st4:doM v2 (sp26 4 0 []) false=(v3,0,0):=by kernel_rfl
theorem st5:doM v3 (sp26 5 0 [120,121,122]) false=(v4,0,0):=by kernel_rfl
theorem st6:doM v4 (sp26 6 0 []) false=(v5,0,0):=by kernel_rfl
theorem st7:doM v5 (sp26 10 0 []) false=(v6,0,0):=by kernel_rfl
theorem st8:doM v6 (⟨4,0,[98],[],[]⟩:StepS) true=(v6,0,241):=by kernel_rfl
theorem st9:doM v6 (sp26 7 (-1) []) false=(v6,0,2):=by kernel_rfl
theorem st10:doM v6 (sp26 5 0 [120]) false=(v7,1,0):=by kernel_rfl
theorem st11:doM v7 (sp26 3 0 []) false=(v8,0,0):=by kernel_rfl
theorem st12:doM v8 (sp26 2 0 []) false=(v9,0,0):=by kernel_rfl
theorem ok_v1:MOk v1:=by
  have:=do_ok new_ok (sp26 1 0 []) false
  rwa [st1] at this
theorem ok_v2:MOk v2:=by
  have:=do_ok ok_v1 (sp26 2 0 []) false
  rwa [st3] at this
theorem ok_v3:MOk v3:=by
  have:=do_ok ok_v2 (sp26 4 0 []) false
  rwa [st4] at this
theorem ok_v4:MOk v4:=by
  have:=do_ok ok_v3 (sp26 5 0 [120,121,122]) false
  rwa [st5] at this
theorem ok_v5:MOk v5:=by
  have:=do_ok ok_v4 (sp26 6 0 []) false
  rwa [st6] at this
theorem ok_v6:MOk v6:=by
  have:=do_ok ok_v5 (sp26 10 0 []) false
  rwa [st7] at this
theorem ok_v7:MOk v7:=by
  have:=do_ok ok_v6 (sp26 5 0 [120]) false
  rwa [st10] at this
theorem ok_v8:MOk v8:=by
  have:=do_ok ok_v7 (sp26 3 0 []) false
  rwa [st11] at this
theorem ok_v9:MOk v9:=by
  have:=do_ok ok_v8 (sp26 2 0 []) false
  rwa [st12] at this
theorem rd6:readM v6 [97] 0=([],162):=by kernel_rfl
theorem sta6:statMM v6 [97]=(⟨[97],0,[],1,0⟩,0):=by kernel_rfl
theorem sta9:statMM v9 [97]=(⟨[97],0,[],1,0⟩,0):=by kernel_rfl
set_option linter.unusedVariables false
set_option linter.unusedSimpArgs false
attribute [local irreducible] J Lq E OpP PRun is any agg tup ptr sl PRunW OpE PRunV OpV star
attribute [local irreducible] slt row leafH shaH recsR OpR stL mdl mdV mdC
theorem step_fn (k n:Int) (t:Str):Fn Tryd.prog 12 [is (.int .i64 k),is (.int .i64 n),is (str t)] (stepT.val (sp26 k n t)):=by
  refine Fn.mk' 11 Tryd.func12 rfl rfl rfl rfl fun w0 H0=>?_
  repeat (first|((first|(apply Lq.s;rfl)|apply PRun.s|(apply Lq.run;rfl;rfl;rfl;exact bsB)|(apply PRun.run;rfl;rfl;exact bsB));first|(exact bsO))|refine bsA ?_|(apply Lq.al;rfl;rfl;intro b)|(apply Open.cons;intro b)|refine bsC ?_)
  refine J.res1 (r':=own b 29 (stepT.cells (sp26 k n t))) (List.Perm.refl _) (own_conv (sp26_conv [97] k n t)) ?_
  (refine J.ret ?_;(repeat (first|refine E.then_ret ?_|refine E.in_ret ?_)))
  exact E.retc stepT (x:=sp26 k n t) rfl rfl List.mem_cons_self rfl rfl
theorem doesV {B:Nat} {m:MM} (x:StepS) (full:Bool) (n e:Int) (hk:MOk m):FnV Tryd.prog 11 [is (.pointer (some ⟨B,0,none⟩)),stepT.val x,is (.bool full),is (.int .i64 n),is (.int .i64 e)] (mdV B m) (is (.bool (decide ((doM m x full).2.1=n) && decide ((doM m x full).2.2=e)))) (mdV B (doM m x full).1):=by
  intro Δ hV
  have hd:=mdoV (B:=B) x full hk Δ hV
  generalize doM m x full=q at *
  refine FnR.mk' 30 Tryd.func11 rfl rfl rfl rfl fun w0 H0=>?_
  repeat (first|((first|(apply Lq.s;rfl)|apply PRun.s|(apply Lq.run;rfl;rfl;rfl;exact bsB)|(apply PRun.run;rfl;rfl;exact bsB));first|(exact bsE)|(exact bsO))|refine bsA ?_|(apply Lq.al;rfl;rfl;intro b)|(apply Open.cons;intro b)|refine bsC ?_)
  refine Lq.callS (Δ0:=Δ) (Δf:=[]) hd rfl bsD (by rw [List.append_nil]) ?_
  rintro _ D ⟨rfl,hV2⟩
  rw [List.append_nil]
  by_cases h1:q.2.1=n
  · rw [decide_eq_true h1]
    by_cases h2:q.2.2=e
    · rw [decide_eq_true h2]
      repeat (first|((first|(apply Lq.s;rfl)|apply PRun.s|(apply Lq.run;rfl;rfl;rfl;exact bsB)|(apply PRun.run;rfl;rfl;exact bsB));first|(exact bsO))|refine bsA ?_|(apply Lq.al;rfl;rfl;intro b)|(apply Open.cons;intro b)|refine bsC ?_)
      (refine J.ret ?_;(repeat (first|refine E.then_ret ?_|refine E.in_ret ?_)))
      exact E.retR1 (G:=[]) rfl rfl ⟨rfl,hV2⟩ (by rw [List.append_nil])
    · rw [decide_eq_false h2]
      repeat (first|((first|(apply Lq.s;rfl)|apply PRun.s|(apply Lq.run;rfl;rfl;rfl;exact bsB)|(apply PRun.run;rfl;rfl;exact bsB));first|(exact bsO))|refine bsA ?_|(apply Lq.al;rfl;rfl;intro b)|(apply Open.cons;intro b)|refine bsC ?_)
      (refine J.ret ?_;(repeat (first|refine E.then_ret ?_|refine E.in_ret ?_)))
      exact E.retR1 (G:=[]) rfl rfl ⟨rfl,hV2⟩ (by rw [List.append_nil])
  · rw [decide_eq_false h1]
    repeat (first|((first|(apply Lq.s;rfl)|apply PRun.s|(apply Lq.run;rfl;rfl;rfl;exact bsB)|(apply PRun.run;rfl;rfl;exact bsB));first|(exact bsO))|refine bsA ?_|(apply Lq.al;rfl;rfl;intro b)|(apply Open.cons;intro b)|refine bsC ?_)
    (refine J.ret ?_;(repeat (first|refine E.then_ret ?_|refine E.in_ret ?_)))
    exact E.retR1 (G:=[]) rfl rfl ⟨rfl,hV2⟩ (by rw [List.append_nil])
theorem does_t {B:Nat} {m m':MM} {x:StepS} {full:Bool} {n e:Int} (hk:MOk m) (h:doM m x full=(m',n,e)):FnV Tryd.prog 11 [is (.pointer (some ⟨B,0,none⟩)),stepT.val x,is (.bool full),is (.int .i64 n),is (.int .i64 e)] (mdV B m) (is (.bool true)) (mdV B m'):=by
  have:=doesV (B:=B) x full n e hk
  rw [h] at this
  simpa using this
set_option maxRecDepth 100000 in
set_option maxHeartbeats 8000000 in
theorem lives26_fn:Fn Tryd.prog 9 [] (is (.bool true)):=by
  refine Fn.mk' 125 Tryd.func9 rfl rfl rfl rfl fun w0 H0=>?_
  repeat (first|((first|(apply Lq.s;rfl)|apply PRun.s|(apply Lq.run;rfl;rfl;rfl;exact bsB)|(apply PRun.run;rfl;rfl;exact bsB));first|(exact bsO))|refine bsA ?_|(apply Lq.al;rfl;rfl;intro b)|(apply Open.cons;intro b)|refine bsC ?_)
  refine Lq.callS (Δ0:=[]) (Δf:=[]) mnew_fnR rfl bsD (List.Perm.refl _) ?_
  rintro _ D ⟨B,rfl,hV⟩
  rw [List.append_nil]
  repeat (first|((first|(apply Lq.s;rfl)|apply PRun.s|(apply Lq.run;rfl;rfl;rfl;exact bsB)|(apply PRun.run;rfl;rfl;exact bsB));first|(apply op_peq;rfl;rfl)|(apply op_call (step_fn 1 0 []);exact bsD)|(apply op_call (step_fn 10 0 []);exact bsD)|(apply op_call (step_fn 2 0 []);exact bsD)|(apply op_call (step_fn 3 0 []);exact bsD)|(apply op_call (step_fn 4 0 []);exact bsD)|(apply op_call (step_fn 5 0 [120,121,122]);exact bsD)|(apply op_call (step_fn 5 0 [120]);exact bsD)|(apply op_call (step_fn 6 0 []);exact bsD)|(apply op_call (step_fn 7 (-1) []);exact bsD)|(exact bsO))|refine bsA ?_|(apply Lq.al;rfl;rfl;intro b)|(apply Open.cons;intro b)|refine bsC ?_)
  refine Lq.wanted rfl rfl rfl ?_
  refine Lq.callS (Δ0:=D) (Δf:=[]) (does_t new_ok st0 D hV) rfl bsD (by rw [List.append_nil]) ?_
  rintro _ D ⟨rfl,hV⟩
  rw [List.append_nil]
  repeat (first|((first|(apply Lq.s;rfl)|apply PRun.s|(apply Lq.run;rfl;rfl;rfl;exact bsB)|(apply PRun.run;rfl;rfl;exact bsB));first|(apply op_peq;rfl;rfl)|(apply op_call (step_fn 1 0 []);exact bsD)|(apply op_call (step_fn 10 0 []);exact bsD)|(apply op_call (step_fn 2 0 []);exact bsD)|(apply op_call (step_fn 3 0 []);exact bsD)|(apply op_call (step_fn 4 0 []);exact bsD)|(apply op_call (step_fn 5 0 [120,121,122]);exact bsD)|(apply op_call (step_fn 5 0 [120]);exact bsD)|(apply op_call (step_fn 6 0 []);exact bsD)|(apply op_call (step_fn 7 (-1) []);exact bsD)|(exact bsO))|refine bsA ?_|(apply Lq.al;rfl;rfl;intro b)|(apply Open.cons;intro b)|refine bsC ?_)
  refine Lq.wanted rfl rfl rfl ?_
  refine Lq.callS (Δ0:=D) (Δf:=[]) (does_t new_ok st1 D hV) rfl bsD (by rw [List.append_nil]) ?_
  rintro _ D ⟨rfl,hV⟩
  rw [List.append_nil]
  repeat (first|((first|(apply Lq.s;rfl)|apply PRun.s|(apply Lq.run;rfl;rfl;rfl;exact bsB)|(apply PRun.run;rfl;rfl;exact bsB));first|(apply op_peq;rfl;rfl)|(apply op_call (step_fn 1 0 []);exact bsD)|(apply op_call (step_fn 10 0 []);exact bsD)|(apply op_call (step_fn 2 0 []);exact bsD)|(apply op_call (step_fn 3 0 []);exact bsD)|(apply op_call (step_fn 4 0 []);exact bsD)|(apply op_call (step_fn 5 0 [120,121,122]);exact bsD)|(apply op_call (step_fn 5 0 [120]);exact bsD)|(apply op_call (step_fn 6 0 []);exact bsD)|(apply op_call (step_fn 7 (-1) []);exact bsD)|(exact bsO))|refine bsA ?_|(apply Lq.al;rfl;rfl;intro b)|(apply Open.cons;intro b)|refine bsC ?_)
  refine Lq.wanted rfl rfl rfl ?_
  refine Lq.callS (Δ0:=D) (Δf:=[]) (does_t ok_v1 st2 D hV) rfl bsD (by rw [List.append_nil]) ?_
  rintro _ D ⟨rfl,hV⟩
  rw [List.append_nil]
  repeat (first|((first|(apply Lq.s;rfl)|apply PRun.s|(apply Lq.run;rfl;rfl;rfl;exact bsB)|(apply PRun.run;rfl;rfl;exact bsB));first|(apply op_peq;rfl;rfl)|(apply op_call (step_fn 1 0 []);exact bsD)|(apply op_call (step_fn 10 0 []);exact bsD)|(apply op_call (step_fn 2 0 []);exact bsD)|(apply op_call (step_fn 3 0 []);exact bsD)|(apply op_call (step_fn 4 0 []);exact bsD)|(apply op_call (step_fn 5 0 [120,121,122]);exact bsD)|(apply op_call (step_fn 5 0 [120]);exact bsD)|(apply op_call (step_fn 6 0 []);exact bsD)|(apply op_call (step_fn 7 (-1) []);exact bsD)|(exact bsO))|refine bsA ?_|(apply Lq.al;rfl;rfl;intro b)|(apply Open.cons;intro b)|refine bsC ?_)
  refine Lq.wanted rfl rfl rfl ?_
  refine Lq.callS (Δ0:=D) (Δf:=[]) (does_t ok_v1 st3 D hV) rfl bsD (by rw [List.append_nil]) ?_
  rintro _ D ⟨rfl,hV⟩
  rw [List.append_nil]
  repeat (first|((first|(apply Lq.s;rfl)|apply PRun.s|(apply Lq.run;rfl;rfl;rfl;exact bsB)|(apply PRun.run;rfl;rfl;exact bsB));first|(apply op_peq;rfl;rfl)|(apply op_call (step_fn 1 0 []);exact bsD)|(apply op_call (step_fn 10 0 []);exact bsD)|(apply op_call (step_fn 2 0 []);exact bsD)|(apply op_call (step_fn 3 0 []);exact bsD)|(apply op_call (step_fn 4 0 []);exact bsD)|(apply op_call (step_fn 5 0 [120,121,122]);exact bsD)|(apply op_call (step_fn 5 0 [120]);exact bsD)|(apply op_call (step_fn 6 0 []);exact bsD)|(apply op_call (step_fn 7 (-1) []);exact bsD)|(exact bsO))|refine bsA ?_|(apply Lq.al;rfl;rfl;intro b)|(apply Open.cons;intro b)|refine bsC ?_)
  refine Lq.wanted rfl rfl rfl ?_
  refine Lq.callS (Δ0:=D) (Δf:=[]) (does_t ok_v2 st4 D hV) rfl bsD (by rw [List.append_nil]) ?_
  rintro _ D ⟨rfl,hV⟩
  rw [List.append_nil]
  repeat (first|((first|(apply Lq.s;rfl)|apply PRun.s|(apply Lq.run;rfl;rfl;rfl;exact bsB)|(apply PRun.run;rfl;rfl;exact bsB));first|(apply op_peq;rfl;rfl)|(apply op_call (step_fn 1 0 []);exact bsD)|(apply op_call (step_fn 10 0 []);exact bsD)|(apply op_call (step_fn 2 0 []);exact bsD)|(apply op_call (step_fn 3 0 []);exact bsD)|(apply op_call (step_fn 4 0 []);exact bsD)|(apply op_call (step_fn 5 0 [120,121,122]);exact bsD)|(apply op_call (step_fn 5 0 [120]);exact bsD)|(apply op_call (step_fn 6 0 []);exact bsD)|(apply op_call (step_fn 7 (-1) []);exact bsD)|(exact bsO))|refine bsA ?_|(apply Lq.al;rfl;rfl;intro b)|(apply Open.cons;intro b)|refine bsC ?_)
  refine Lq.wanted rfl rfl rfl ?_
  refine Lq.callS (Δ0:=D) (Δf:=[]) (does_t ok_v3 st5 D hV) rfl bsD (by rw [List.append_nil]) ?_
  rintro _ D ⟨rfl,hV⟩
  rw [List.append_nil]
  repeat (first|((first|(apply Lq.s;rfl)|apply PRun.s|(apply Lq.run;rfl;rfl;rfl;exact bsB)|(apply PRun.run;rfl;rfl;exact bsB));first|(apply op_peq;rfl;rfl)|(apply op_call (step_fn 1 0 []);exact bsD)|(apply op_call (step_fn 10 0 []);exact bsD)|(apply op_call (step_fn 2 0 []);exact bsD)|(apply op_call (step_fn 3 0 []);exact bsD)|(apply op_call (step_fn 4 0 []);exact bsD)|(apply op_call (step_fn 5 0 [120,121,122]);exact bsD)|(apply op_call (step_fn 5 0 [120]);exact bsD)|(apply op_call (step_fn 6 0 []);exact bsD)|(apply op_call (step_fn 7 (-1) []);exact bsD)|(exact bsO))|refine bsA ?_|(apply Lq.al;rfl;rfl;intro b)|(apply Open.cons;intro b)|refine bsC ?_)
  refine Lq.wanted rfl rfl rfl ?_
  refine Lq.callS (Δ0:=D) (Δf:=[]) (does_t ok_v4 st6 D hV) rfl bsD (by rw [List.append_nil]) ?_
  rintro _ D ⟨rfl,hV⟩
  rw [List.append_nil]
  repeat (first|((first|(apply Lq.s;rfl)|apply PRun.s|(apply Lq.run;rfl;rfl;rfl;exact bsB)|(apply PRun.run;rfl;rfl;exact bsB));first|(apply op_peq;rfl;rfl)|(apply op_call (step_fn 1 0 []);exact bsD)|(apply op_call (step_fn 10 0 []);exact bsD)|(apply op_call (step_fn 2 0 []);exact bsD)|(apply op_call (step_fn 3 0 []);exact bsD)|(apply op_call (step_fn 4 0 []);exact bsD)|(apply op_call (step_fn 5 0 [120,121,122]);exact bsD)|(apply op_call (step_fn 5 0 [120]);exact bsD)|(apply op_call (step_fn 6 0 []);exact bsD)|(apply op_call (step_fn 7 (-1) []);exact bsD)|(exact bsO))|refine bsA ?_|(apply Lq.al;rfl;rfl;intro b)|(apply Open.cons;intro b)|refine bsC ?_)
  refine Lq.wanted rfl rfl rfl ?_
  refine Lq.callS (Δ0:=D) (Δf:=[]) (does_t ok_v5 st7 D hV) rfl bsD (by rw [List.append_nil]) ?_
  rintro _ D ⟨rfl,hV⟩
  rw [List.append_nil]
  repeat (first|((first|(apply Lq.s;rfl)|apply PRun.s|(apply Lq.run;rfl;rfl;rfl;exact bsB)|(apply PRun.run;rfl;rfl;exact bsB));first|(exact bsO))|refine bsA ?_|(apply Lq.al;rfl;rfl;intro b)|(apply Open.cons;intro b)|refine bsC ?_)
  refine Lq.callS (Δ0:=D) (Δf:=[]) (mreadV [97] 0 ok_v6 D hV) rfl bsD (by rw [List.append_nil]) ?_
  rintro _ D ⟨rfl,hV⟩
  rw [List.append_nil,rd6]
  dsimp only
  repeat (first|((first|(apply Lq.s;rfl)|apply PRun.s|(apply Lq.run;rfl;rfl;rfl;exact bsB)|(apply PRun.run;rfl;rfl;exact bsB));first|(exact bsO))|refine bsA ?_|(apply Lq.al;rfl;rfl;intro b)|(apply Open.cons;intro b)|refine bsC ?_)
  refine Lq.callS (Δ0:=D) (Δf:=[]) (mstatV [97] ok_v6 D hV) rfl bsD (by rw [List.append_nil]) ?_
  rintro _ D ⟨rfl,hV⟩
  rw [List.append_nil,sta6]
  dsimp only
  repeat (first|((first|(apply Lq.s;rfl)|apply PRun.s|(apply Lq.run;rfl;rfl;rfl;exact bsB)|(apply PRun.run;rfl;rfl;exact bsB));first|(apply op_peq;rfl;rfl)|(apply op_call (step_fn 1 0 []);exact bsD)|(apply op_call (step_fn 10 0 []);exact bsD)|(apply op_call (step_fn 2 0 []);exact bsD)|(apply op_call (step_fn 3 0 []);exact bsD)|(apply op_call (step_fn 4 0 []);exact bsD)|(apply op_call (step_fn 5 0 [120,121,122]);exact bsD)|(apply op_call (step_fn 5 0 [120]);exact bsD)|(apply op_call (step_fn 6 0 []);exact bsD)|(apply op_call (step_fn 7 (-1) []);exact bsD)|(exact bsO))|refine bsA ?_|(apply Lq.al;rfl;rfl;intro b)|(apply Open.cons;intro b)|refine bsC ?_)
  refine Lq.conv 85 rfl (ψ:=stepT.val ⟨4,0,[98],[],[]⟩) (agg_convM (sp26_conv [98] 4 0 [])) ?_
  refine Lq.wanted rfl rfl rfl ?_
  refine Lq.callS (Δ0:=D) (Δf:=[_]) (does_t ok_v6 st8 D hV) rfl bsD (List.perm_append_comm (l₁:=[_])) ?_
  rintro _ D ⟨rfl,hV⟩
  refine Lq.perm (List.perm_append_comm (l₂:=[_])) ?_
  repeat (first|((first|(apply Lq.s;rfl)|apply PRun.s|(apply Lq.run;rfl;rfl;rfl;exact bsB)|(apply PRun.run;rfl;rfl;exact bsB));first|(apply op_peq;rfl;rfl)|(apply op_call (step_fn 1 0 []);exact bsD)|(apply op_call (step_fn 10 0 []);exact bsD)|(apply op_call (step_fn 2 0 []);exact bsD)|(apply op_call (step_fn 3 0 []);exact bsD)|(apply op_call (step_fn 4 0 []);exact bsD)|(apply op_call (step_fn 5 0 [120,121,122]);exact bsD)|(apply op_call (step_fn 5 0 [120]);exact bsD)|(apply op_call (step_fn 6 0 []);exact bsD)|(apply op_call (step_fn 7 (-1) []);exact bsD)|(exact bsO))|refine bsA ?_|(apply Lq.al;rfl;rfl;intro b)|(apply Open.cons;intro b)|refine bsC ?_)
  refine Lq.wanted rfl rfl rfl ?_
  refine Lq.callS (Δ0:=D) (Δf:=[_]) (does_t ok_v6 st9 D hV) rfl bsD (List.perm_append_comm (l₁:=[_])) ?_
  rintro _ D ⟨rfl,hV⟩
  refine Lq.perm (List.perm_append_comm (l₂:=[_])) ?_
  repeat (first|((first|(apply Lq.s;rfl)|apply PRun.s|(apply Lq.run;rfl;rfl;rfl;exact bsB)|(apply PRun.run;rfl;rfl;exact bsB));first|(apply op_peq;rfl;rfl)|(apply op_call (step_fn 1 0 []);exact bsD)|(apply op_call (step_fn 10 0 []);exact bsD)|(apply op_call (step_fn 2 0 []);exact bsD)|(apply op_call (step_fn 3 0 []);exact bsD)|(apply op_call (step_fn 4 0 []);exact bsD)|(apply op_call (step_fn 5 0 [120,121,122]);exact bsD)|(apply op_call (step_fn 5 0 [120]);exact bsD)|(apply op_call (step_fn 6 0 []);exact bsD)|(apply op_call (step_fn 7 (-1) []);exact bsD)|(exact bsO))|refine bsA ?_|(apply Lq.al;rfl;rfl;intro b)|(apply Open.cons;intro b)|refine bsC ?_)
  refine Lq.wanted rfl rfl rfl ?_
  refine Lq.callS (Δ0:=D) (Δf:=[_]) (does_t ok_v6 st10 D hV) rfl bsD (List.perm_append_comm (l₁:=[_])) ?_
  rintro _ D ⟨rfl,hV⟩
  refine Lq.perm (List.perm_append_comm (l₂:=[_])) ?_
  repeat (first|((first|(apply Lq.s;rfl)|apply PRun.s|(apply Lq.run;rfl;rfl;rfl;exact bsB)|(apply PRun.run;rfl;rfl;exact bsB));first|(apply op_peq;rfl;rfl)|(apply op_call (step_fn 1 0 []);exact bsD)|(apply op_call (step_fn 10 0 []);exact bsD)|(apply op_call (step_fn 2 0 []);exact bsD)|(apply op_call (step_fn 3 0 []);exact bsD)|(apply op_call (step_fn 4 0 []);exact bsD)|(apply op_call (step_fn 5 0 [120,121,122]);exact bsD)|(apply op_call (step_fn 5 0 [120]);exact bsD)|(apply op_call (step_fn 6 0 []);exact bsD)|(apply op_call (step_fn 7 (-1) []);exact bsD)|(exact bsO))|refine bsA ?_|(apply Lq.al;rfl;rfl;intro b)|(apply Open.cons;intro b)|refine bsC ?_)
  refine Lq.wanted rfl rfl rfl ?_
  refine Lq.callS (Δ0:=D) (Δf:=[_]) (does_t ok_v7 st11 D hV) rfl bsD (List.perm_append_comm (l₁:=[_])) ?_
  rintro _ D ⟨rfl,hV⟩
  refine Lq.perm (List.perm_append_comm (l₂:=[_])) ?_
  repeat (first|((first|(apply Lq.s;rfl)|apply PRun.s|(apply Lq.run;rfl;rfl;rfl;exact bsB)|(apply PRun.run;rfl;rfl;exact bsB));first|(apply op_peq;rfl;rfl)|(apply op_call (step_fn 1 0 []);exact bsD)|(apply op_call (step_fn 10 0 []);exact bsD)|(apply op_call (step_fn 2 0 []);exact bsD)|(apply op_call (step_fn 3 0 []);exact bsD)|(apply op_call (step_fn 4 0 []);exact bsD)|(apply op_call (step_fn 5 0 [120,121,122]);exact bsD)|(apply op_call (step_fn 5 0 [120]);exact bsD)|(apply op_call (step_fn 6 0 []);exact bsD)|(apply op_call (step_fn 7 (-1) []);exact bsD)|(exact bsO))|refine bsA ?_|(apply Lq.al;rfl;rfl;intro b)|(apply Open.cons;intro b)|refine bsC ?_)
  refine Lq.wanted rfl rfl rfl ?_
  refine Lq.callS (Δ0:=D) (Δf:=[_]) (does_t ok_v8 st12 D hV) rfl bsD (List.perm_append_comm (l₁:=[_])) ?_
  rintro _ D ⟨rfl,hV⟩
  refine Lq.perm (List.perm_append_comm (l₂:=[_])) ?_
  repeat (first|((first|(apply Lq.s;rfl)|apply PRun.s|(apply Lq.run;rfl;rfl;rfl;exact bsB)|(apply PRun.run;rfl;rfl;exact bsB));first|(exact bsO))|refine bsA ?_|(apply Lq.al;rfl;rfl;intro b)|(apply Open.cons;intro b)|refine bsC ?_)
  refine Lq.callS (Δ0:=D) (Δf:=[_]) (mstatV [97] ok_v9 D hV) rfl bsD (List.perm_append_comm (l₁:=[_])) ?_
  rintro _ D ⟨rfl,hV⟩
  refine Lq.perm (List.perm_append_comm (l₂:=[_])) ?_
  rw [sta9]
  dsimp only
  repeat (first|((first|(apply Lq.s;rfl)|apply PRun.s|(apply Lq.run;rfl;rfl;rfl;exact bsB)|(apply PRun.run;rfl;rfl;exact bsB));first|(exact bsO))|refine bsA ?_|(apply Lq.al;rfl;rfl;intro b)|(apply Open.cons;intro b)|refine bsC ?_)
  (refine J.ret ?_;(repeat (first|refine E.then_ret ?_|refine E.in_ret ?_)))
  exact E.ret1 rfl rfl
end Go.Proofs.YtljbbajelkkafaaDoor.L
