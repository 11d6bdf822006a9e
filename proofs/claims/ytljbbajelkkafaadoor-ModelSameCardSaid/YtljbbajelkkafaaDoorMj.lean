import Derived.Test.YtljbbajelkkafaaDoorMg
/-
  What a model seals,and its steps,walked.
-/
namespace Go.Proofs.YtljbbajelkkafaaDoor.L
open Go
set_option linter.unusedSectionVars false
variable [Globs] [Has_sha_table] [Has_sha_begin]
set_option linter.unusedVariables false
theorem flat_set_same {α:Type} (T:Ty α) {xs:List α} {i:Nat} {r v:α} (h:xs[i]?=some r) (e:T.cells v=T.cells r):flat T (xs.set i v)=flat T xs:=by
  obtain ⟨hl,hh⟩:=List.getElem?_eq_some_iff.1 h
  have hs:(xs.set i v)[i]?=some v:=List.getElem?_set_self hl
  rw [flat_split T h,flat_split T hs,List.take_set_of_le (Nat.le_refl _),List.drop_set_of_lt (by omega),e]
theorem shredR_eq {l:List MRec} {k:Nat} {r:MRec} (h:l[k]?=some r):shredR l k=l.set k { r with shred:=true,text:=[] }:=by unfold shredR;rw [h]
theorem errShred_range {s:MStr} {c i:Int} (h:i < 0 ∨ (s.recs.length:Int)≤i):errShredM s c i=161:=by unfold errShredM;rw [if_pos h]
theorem errShred_in {s:MStr} {c:Int} {k:Nat} {r:MRec} (h:s.recs[k]?=some r):errShredM s c (k:Int)=mayM (zRec r.time r.shred) s.retain s.holds.length c:=by
  have:=(List.getElem?_eq_some_iff.1 h).1
  unfold errShredM
  rw [if_neg (by omega),Int.toNat_natCast,h]
set_option linter.unusedVariables false
set_option linter.unusedSimpArgs false
attribute [local irreducible] J Lq E OpP PRun is any agg tup ptr sl PRunW OpE
attribute [local irreducible] slt row leafH shaH recsR OpR stL mdl
set_option maxHeartbeats 1000000 in
theorem mseal_fnR {B:Nat} {m:MM} {A1:Option Addr} {c1:Nat} {xs1:List MO} {A2:Option Addr} {c2:Nat} {xs2:List MO} (hf:fits m xs1 xs2) (hl:xs2.length≤1000) (hg : ∀ x ∈ xs2,x.1.recs.length≤1000∧x.1.holds.length≤1000):FnR Tryd.prog 58 [is (.pointer (some ⟨B,0,none⟩))] (mdl B m A1 c1 xs1 A2 c2 xs2)
    (fun ψ Δ=>ψ=any∧mdV B (sealM m) Δ):=by
  have hcl:=mclone_fnR m.cur.clock A2 c2 xs2 hl hg
  refine FnR.mk' 13 Tryd.func58 rfl rfl rfl rfl fun w0 H0=>?_
  unfold mdl mdC
  repeat (first|((first|(apply Lq.s;rfl)|apply PRun.s|(apply Lq.run;rfl;rfl;rfl;exact bsB)|(apply PRun.run;rfl;rfl;exact bsB));first|(apply op_oload (stO A2 xs2.length c2) (x:=m.cur.clock);rfl;exact bsM;rfl)|(exact bsO))|refine bsA ?_|(apply Lq.al;rfl;rfl;intro b)|(apply Open.cons;intro b)|refine bsC ?_)
  refine Lq.callS (Δ0:=stL A2 c2 xs2) (Δf:=own B 66 _::stL A1 c1 xs1) hcl rfl bsD (permP [[_],_,_] [0,1,2] [1,0,2] (by decide)) ?_
  rintro _ _ ⟨A',c',ys,hm,rfl,rfl⟩
  rw [List.append_assoc]
  refine Lq.perm (permP [_,_,[_],_] [0,1,2,3] [2,1,0,3] (by decide)) ?_
  repeat (first|((first|(apply Lq.s;rfl)|apply PRun.s|(apply Lq.run;rfl;rfl;rfl;exact bsB)|(apply PRun.run;rfl;rfl;exact bsB));first|(exact bsO))|refine bsA ?_|(apply Lq.al;rfl;rfl;intro b)|(apply Open.cons;intro b)|refine bsC ?_)
  refine E.retR0 (Δ':=mdl B (sealM m) A' c' ys A2 c2 xs2) (G:=stL A1 c1 xs1) .normal (.inr rfl) rfl (fun _=>any_h) ⟨rfl,_,_,_,_,_,_,⟨hm.trans hf.2,hf.2⟩,rfl⟩ ?_
  unfold mdl
  rw [List.cons_append,List.append_assoc]
  exact List.Perm.refl _
theorem msync_fnR {B:Nat} {m:MM} {A1:Option Addr} {c1:Nat} {xs1:List MO} {A2:Option Addr} {c2:Nat} {xs2:List MO} (full:Bool) (hf:fits m xs1 xs2) (hk:MOk m):FnR Tryd.prog 34 [is (.pointer (some ⟨B,0,none⟩)),is (.bool full)] (mdl B m A1 c1 xs1 A2 c2 xs2)
    (fun ψ Δ=>ψ=is (.int .i64 (syncM m full).2)∧mdV B (syncM m full).1 Δ):=by
  have hmd:mdV B m (mdl B m A1 c1 xs1 A2 c2 xs2):=⟨A1,c1,xs1,A2,c2,xs2,hf,rfl⟩
  obtain ⟨hl2,hg2⟩:=fits_g hf.2 hk.cur
  have htd:=hk.todo
  refine FnR.mk' 34 Tryd.func34 rfl rfl rfl rfl fun w0 H0=>?_
  rw [mdl_eq]
  obtain ⟨D,hD⟩ : ∃ D,D=recsR xs2++stL A1 c1 xs1:=⟨_,rfl⟩
  rw [← hD]
  unfold mdC
  cases hm:m.mnt with
  | false =>
    have e:syncM m full=(m,240):=by unfold syncM;rw [hm];rfl
    rw [e]
    repeat (first|((first|(apply Lq.s;rfl)|apply PRun.s|(apply Lq.run;rfl;rfl;rfl;exact bsB)|(apply PRun.run;rfl;rfl;exact bsB));first|(apply op_ocell;rfl;exact bsM;rfl)|(apply op_slen;rfl)|(exact bsO))|refine bsA ?_|(apply Lq.al;rfl;rfl;intro b)|(apply Open.cons;intro b)|refine bsC ?_)
    (refine J.ret ?_;(repeat (first|refine E.then_ret ?_|refine E.in_ret ?_)))
    exact E.retR1 (G:=[]) rfl rfl ⟨rfl,hmd⟩ (by rw [List.append_nil,mdl_eq,hD];unfold mdC;rw [hm])
  | true =>
    repeat (first|((first|(apply Lq.s;rfl)|apply PRun.s|(apply Lq.run;rfl;rfl;rfl;exact bsB)|(apply PRun.run;rfl;rfl;exact bsB));first|(apply op_ocell;rfl;exact bsM;rfl)|(apply op_slen;rfl)|(exact bsO))|refine bsA ?_|(apply Lq.al;rfl;rfl;intro b)|(apply Open.cons;intro b)|refine bsC ?_)
    by_cases h0:m.todo=0
    · by_cases hc:m.cur.clock=m.sure.clock
      · have e:syncM m full=(m,0):=by unfold syncM;rw [hm,if_pos rfl,if_pos ⟨h0,hc⟩]
        rw [e]
        refine J.drawW 19 [(none,none),(none,none),(none,none),(none,none),(none,none),(none,none),(none,none),(none,none),(none,none),(none,none),(none,none),(none,none),(none,none),(none,none),(none,none),(none,none),(none,none),(none,none),(none,none)] mixed (by kernel_rfl) ?_
        repeat (first|((first|apply PRunW.s|(apply PRunW.run;rfl;rfl;exact bsB)|(apply Lq.s;rfl)|apply PRun.s|(apply Lq.run;rfl;rfl;rfl;exact bsB)|(apply PRun.run;rfl;rfl;exact bsB));first|(apply op_ocell;rfl;exact bsM;rfl)|(apply op_slen;rfl)|(apply op_eql_t;rfl;rfl;omega)|(exact bsO))|refine bsA ?_|(apply Lq.al;rfl;rfl;intro b)|(apply Open.cons;intro b)|refine bsC ?_|apply PRunW.nil|(apply PRunW.al;rfl)|(apply PRunW.pass;rfl;rfl)|(apply PRunW.skip;rfl;rfl;exact bsB)|(apply Open.pv;intro b)|apply Open.av|(apply Open.rv;intro A c))
        repeat (first|((first|(apply Lq.s;rfl)|apply PRun.s|(apply Lq.run;rfl;rfl;rfl;exact bsB)|(apply PRun.run;rfl;rfl;exact bsB));first|(exact bsO))|refine bsA ?_|(apply Lq.al;rfl;rfl;intro b)|(apply Open.cons;intro b)|refine bsC ?_)
        (refine J.ret ?_;(repeat (first|refine E.then_ret ?_|refine E.in_ret ?_)))
        exact E.retR1 (G:=[]) rfl rfl ⟨rfl,hmd⟩ (by rw [List.append_nil,mdl_eq,hD];unfold mdC;rw [hm])
      · have e:syncM m full=if full then (m,241) else (sealM m,0):=by unfold syncM;rw [hm,if_pos rfl,if_neg (by omega)]
        rw [e]
        refine J.drawW 19 [(none,none),(none,none),(none,none),(none,none),(none,none),(none,none),(none,none),(none,none),(none,none),(none,none),(none,none),(none,none),(none,none),(none,none),(none,none),(none,none),(none,none),(none,none),(none,none)] mixed (by kernel_rfl) ?_
        repeat (first|((first|apply PRunW.s|(apply PRunW.run;rfl;rfl;exact bsB)|(apply Lq.s;rfl)|apply PRun.s|(apply Lq.run;rfl;rfl;rfl;exact bsB)|(apply PRun.run;rfl;rfl;exact bsB));first|(apply op_ocell;rfl;exact bsM;rfl)|(apply op_slen;rfl)|(apply op_eql_t;rfl;rfl;omega)|(apply op_eql_f;rfl;rfl;omega)|(exact bsO))|refine bsA ?_|(apply Lq.al;rfl;rfl;intro b)|(apply Open.cons;intro b)|refine bsC ?_|apply PRunW.nil|(apply PRunW.al;rfl)|(apply PRunW.pass;rfl;rfl)|(apply PRunW.skip;rfl;rfl;exact bsB)|(apply Open.pv;intro b)|apply Open.av|(apply Open.rv;intro A c))
        cases full with
        | true =>
          rw [if_pos rfl]
          repeat (first|((first|(apply Lq.s;rfl)|apply PRun.s|(apply Lq.run;rfl;rfl;rfl;exact bsB)|(apply PRun.run;rfl;rfl;exact bsB));first|(exact bsO))|refine bsA ?_|(apply Lq.al;rfl;rfl;intro b)|(apply Open.cons;intro b)|refine bsC ?_)
          (refine J.ret ?_;(repeat (first|refine E.then_ret ?_|refine E.in_ret ?_)))
          exact E.retR1 (G:=[]) rfl rfl ⟨rfl,hmd⟩ (by rw [List.append_nil,mdl_eq,hD];unfold mdC;rw [hm])
        | false =>
          rw [if_neg (by decide)]
          repeat (first|((first|(apply Lq.s;rfl)|apply PRun.s|(apply Lq.run;rfl;rfl;rfl;exact bsB)|(apply PRun.run;rfl;rfl;exact bsB));first|(exact bsO))|refine bsA ?_|(apply Lq.al;rfl;rfl;intro b)|(apply Open.cons;intro b)|refine bsC ?_)
          refine Lq.callS (Δ0:=mdl B m A1 c1 xs1 A2 c2 xs2) (Δf:=[]) (mseal_fnR hf (by omega) hg2) rfl bsD (by rw [List.append_nil,mdl_eq,hD];unfold mdC;rw [hm]) ?_
          rintro _ D2 ⟨rfl,hV⟩
          rw [List.append_nil]
          repeat (first|((first|(apply Lq.s;rfl)|apply PRun.s|(apply Lq.run;rfl;rfl;rfl;exact bsB)|(apply PRun.run;rfl;rfl;exact bsB));first|(exact bsO))|refine bsA ?_|(apply Lq.al;rfl;rfl;intro b)|(apply Open.cons;intro b)|refine bsC ?_)
          (refine J.ret ?_;(repeat (first|refine E.then_ret ?_|refine E.in_ret ?_)))
          exact E.retR1 (G:=[]) rfl rfl ⟨rfl,hV⟩ (by rw [List.append_nil])
    · have e:syncM m full=if full then (m,241) else (sealM m,0):=by unfold syncM;rw [hm,if_pos rfl,if_neg (by omega)]
      rw [e]
      refine J.drawW 19 [(none,none),(none,none),(none,none),(none,none),(none,none),(none,none),(none,none),(none,none),(none,none),(none,none),(none,none),(none,none),(none,none),(none,none),(none,none),(none,none),(none,none),(none,none),(none,none)] mixed (by kernel_rfl) ?_
      repeat (first|((first|apply PRunW.s|(apply PRunW.run;rfl;rfl;exact bsB)|(apply Lq.s;rfl)|apply PRun.s|(apply Lq.run;rfl;rfl;rfl;exact bsB)|(apply PRun.run;rfl;rfl;exact bsB));first|(apply op_ocell;rfl;exact bsM;rfl)|(apply op_slen;rfl)|(apply op_eql_t;rfl;rfl;omega)|(apply op_eql_f;rfl;rfl;omega)|(exact bsO))|refine bsA ?_|(apply Lq.al;rfl;rfl;intro b)|(apply Open.cons;intro b)|refine bsC ?_|apply PRunW.nil|(apply PRunW.al;rfl)|(apply PRunW.pass;rfl;rfl)|(apply PRunW.skip;rfl;rfl;exact bsB)|(apply Open.pv;intro b)|apply Open.av|(apply Open.rv;intro A c))
      cases full with
      | true =>
        rw [if_pos rfl]
        repeat (first|((first|(apply Lq.s;rfl)|apply PRun.s|(apply Lq.run;rfl;rfl;rfl;exact bsB)|(apply PRun.run;rfl;rfl;exact bsB));first|(exact bsO))|refine bsA ?_|(apply Lq.al;rfl;rfl;intro b)|(apply Open.cons;intro b)|refine bsC ?_)
        (refine J.ret ?_;(repeat (first|refine E.then_ret ?_|refine E.in_ret ?_)))
        exact E.retR1 (G:=[]) rfl rfl ⟨rfl,hmd⟩ (by rw [List.append_nil,mdl_eq,hD];unfold mdC;rw [hm])
      | false =>
        rw [if_neg (by decide)]
        repeat (first|((first|(apply Lq.s;rfl)|apply PRun.s|(apply Lq.run;rfl;rfl;rfl;exact bsB)|(apply PRun.run;rfl;rfl;exact bsB));first|(exact bsO))|refine bsA ?_|(apply Lq.al;rfl;rfl;intro b)|(apply Open.cons;intro b)|refine bsC ?_)
        refine Lq.callS (Δ0:=mdl B m A1 c1 xs1 A2 c2 xs2) (Δf:=[]) (mseal_fnR hf (by omega) hg2) rfl bsD (by rw [List.append_nil,mdl_eq,hD];unfold mdC;rw [hm]) ?_
        rintro _ D2 ⟨rfl,hV⟩
        rw [List.append_nil]
        repeat (first|((first|(apply Lq.s;rfl)|apply PRun.s|(apply Lq.run;rfl;rfl;rfl;exact bsB)|(apply PRun.run;rfl;rfl;exact bsB));first|(exact bsO))|refine bsA ?_|(apply Lq.al;rfl;rfl;intro b)|(apply Open.cons;intro b)|refine bsC ?_)
        (refine J.ret ?_;(repeat (first|refine E.then_ret ?_|refine E.in_ret ?_)))
        exact E.retR1 (G:=[]) rfl rfl ⟨rfl,hV⟩ (by rw [List.append_nil])
theorem mturn_fnR {B:Nat} {m:MM} {A1:Option Addr} {c1:Nat} {xs1:List MO} {A2:Option Addr} {c2:Nat} {xs2:List MO} (k:Int) (full:Bool) (hf:fits m xs1 xs2) (hk:MOk m) (hkk:k=1 ∨ k=2 ∨ k=3):FnR Tryd.prog 32 [is (.pointer (some ⟨B,0,none⟩)),is (.int .i64 k),is (.bool full)] (mdl B m A1 c1 xs1 A2 c2 xs2)
    (fun ψ Δ=>ψ=is (.int .i64 (turnM m k full).2)∧mdV B (turnM m k full).1 Δ):=by
  have hmd:mdV B m (mdl B m A1 c1 xs1 A2 c2 xs2):=⟨A1,c1,xs1,A2,c2,xs2,hf,rfl⟩
  obtain ⟨hl1,hg1⟩:=fits_g hf.1 hk.sure
  have hcl:=mclone_fnR m.sure.clock A1 c1 xs1 (by omega) hg1
  refine FnR.mk' 67 Tryd.func32 rfl rfl rfl rfl fun w0 H0=>?_
  unfold mdl mdC
  rcases hkk with rfl|rfl|rfl
  · cases hm:m.mnt with
    | true =>
      have e:turnM m 1 full=(m,240):=by unfold turnM errTurn;simp [hm]
      rw [e]
      repeat (first|((first|(apply Lq.s;rfl)|apply PRun.s|(apply Lq.run;rfl;rfl;rfl;exact bsB)|(apply PRun.run;rfl;rfl;exact bsB));first|(apply op_ocell;rfl;exact bsM;rfl)|(apply op_slen;rfl)|(apply op_bne;rfl;rfl)|(exact bsO))|refine bsA ?_|(apply Lq.al;rfl;rfl;intro b)|(apply Open.cons;intro b)|refine bsC ?_)
      (refine J.ret ?_;(repeat (first|refine E.then_ret ?_|refine E.in_ret ?_)))
      exact E.retR1 (Δ':=mdl B m A1 c1 xs1 A2 c2 xs2) (G:=[]) rfl rfl ⟨rfl,hmd⟩ (by rw [List.append_nil];unfold mdl mdC;simp only [hm];exact List.Perm.refl _)
    | false =>
      cases hfm:m.fmt with
      | true =>
        have e:turnM m 1 full=(m,160):=by unfold turnM errTurn;simp [hm,hfm]
        rw [e]
        repeat (first|((first|(apply Lq.s;rfl)|apply PRun.s|(apply Lq.run;rfl;rfl;rfl;exact bsB)|(apply PRun.run;rfl;rfl;exact bsB));first|(apply op_ocell;rfl;exact bsM;rfl)|(apply op_slen;rfl)|(apply op_bne;rfl;rfl)|(exact bsO))|refine bsA ?_|(apply Lq.al;rfl;rfl;intro b)|(apply Open.cons;intro b)|refine bsC ?_)
        (refine J.ret ?_;(repeat (first|refine E.then_ret ?_|refine E.in_ret ?_)))
        exact E.retR1 (Δ':=mdl B m A1 c1 xs1 A2 c2 xs2) (G:=[]) rfl rfl ⟨rfl,hmd⟩ (by rw [List.append_nil];unfold mdl mdC;simp only [hm,hfm];exact List.Perm.refl _)
      | false =>
        cases full with
        | true =>
          have e:turnM m 1 true=(m,241):=by unfold turnM errTurn;simp [hm,hfm]
          rw [e]
          repeat (first|((first|(apply Lq.s;rfl)|apply PRun.s|(apply Lq.run;rfl;rfl;rfl;exact bsB)|(apply PRun.run;rfl;rfl;exact bsB));first|(apply op_ocell;rfl;exact bsM;rfl)|(apply op_slen;rfl)|(apply op_bne;rfl;rfl)|(exact bsO))|refine bsA ?_|(apply Lq.al;rfl;rfl;intro b)|(apply Open.cons;intro b)|refine bsC ?_)
          (refine J.ret ?_;(repeat (first|refine E.then_ret ?_|refine E.in_ret ?_)))
          exact E.retR1 (Δ':=mdl B m A1 c1 xs1 A2 c2 xs2) (G:=[]) rfl rfl ⟨rfl,hmd⟩ (by rw [List.append_nil];unfold mdl mdC;simp only [hm,hfm];exact List.Perm.refl _)
        | false =>
          have e:turnM m 1 false=(⟨true,false,m.sure,m.sure,0⟩,0):=by unfold turnM errTurn;simp [hm,hfm]
          rw [e]
          repeat (first|((first|(apply Lq.s;rfl)|apply PRun.s|(apply Lq.run;rfl;rfl;rfl;exact bsB)|(apply PRun.run;rfl;rfl;exact bsB));first|(apply op_ocell;rfl;exact bsM;rfl)|(apply op_slen;rfl)|(apply op_bne;rfl;rfl)|(apply op_oload (stO A1 xs1.length c1) (x:=m.sure.clock);rfl;exact bsM;rfl)|(exact bsO))|refine bsA ?_|(apply Lq.al;rfl;rfl;intro b)|(apply Open.cons;intro b)|refine bsC ?_)
          refine Lq.callS (Δ0:=stL A1 c1 xs1) (Δf:=own B 66 _::stL A2 c2 xs2) hcl rfl bsD (permP [[_],_,_] [0,1,2] [2,0,1] (by decide)) ?_
          rintro _ _ ⟨A',c',ys,hm2,rfl,rfl⟩
          rw [List.append_assoc]
          refine Lq.perm (permP [_,_,[_],_] [0,1,2,3] [2,0,1,3] (by decide)) ?_
          repeat (first|((first|(apply Lq.s;rfl)|apply PRun.s|(apply Lq.run;rfl;rfl;rfl;exact bsB)|(apply PRun.run;rfl;rfl;exact bsB));first|(exact bsO))|refine bsA ?_|(apply Lq.al;rfl;rfl;intro b)|(apply Open.cons;intro b)|refine bsC ?_)
          (refine J.ret ?_;(repeat (first|refine E.then_ret ?_|refine E.in_ret ?_)))
          refine E.retR1 (Δ':=mdl B ⟨true,false,m.sure,m.sure,0⟩ A1 c1 xs1 A' c' ys) (G:=stL A2 c2 xs2) rfl rfl ⟨rfl,_,_,_,_,_,_,⟨hf.1,hm2.trans hf.1⟩,rfl⟩ ?_
          unfold mdl
          rw [List.cons_append,List.append_assoc]
          exact List.Perm.refl _
  · cases hm:m.mnt with
    | true =>
      have e:turnM m 2 full=(m,240):=by unfold turnM errTurn;simp [hm]
      rw [e]
      repeat (first|((first|(apply Lq.s;rfl)|apply PRun.s|(apply Lq.run;rfl;rfl;rfl;exact bsB)|(apply PRun.run;rfl;rfl;exact bsB));first|(apply op_ocell;rfl;exact bsM;rfl)|(apply op_slen;rfl)|(apply op_bne;rfl;rfl)|(exact bsO))|refine bsA ?_|(apply Lq.al;rfl;rfl;intro b)|(apply Open.cons;intro b)|refine bsC ?_)
      (refine J.ret ?_;(repeat (first|refine E.then_ret ?_|refine E.in_ret ?_)))
      exact E.retR1 (Δ':=mdl B m A1 c1 xs1 A2 c2 xs2) (G:=[]) rfl rfl ⟨rfl,hmd⟩ (by rw [List.append_nil];unfold mdl mdC;simp only [hm];exact List.Perm.refl _)
    | false =>
      cases hfm:m.fmt with
      | false =>
        have e:turnM m 2 full=(m,4):=by unfold turnM errTurn;simp [hm,hfm]
        rw [e]
        repeat (first|((first|(apply Lq.s;rfl)|apply PRun.s|(apply Lq.run;rfl;rfl;rfl;exact bsB)|(apply PRun.run;rfl;rfl;exact bsB));first|(apply op_ocell;rfl;exact bsM;rfl)|(apply op_slen;rfl)|(apply op_bne;rfl;rfl)|(exact bsO))|refine bsA ?_|(apply Lq.al;rfl;rfl;intro b)|(apply Open.cons;intro b)|refine bsC ?_)
        (refine J.ret ?_;(repeat (first|refine E.then_ret ?_|refine E.in_ret ?_)))
        exact E.retR1 (Δ':=mdl B m A1 c1 xs1 A2 c2 xs2) (G:=[]) rfl rfl ⟨rfl,hmd⟩ (by rw [List.append_nil];unfold mdl mdC;simp only [hm,hfm];exact List.Perm.refl _)
      | true =>
        have e:turnM m 2 full=(⟨true,true,m.sure,m.sure,0⟩,0):=by unfold turnM errTurn;simp [hm,hfm]
        rw [e]
        repeat (first|((first|(apply Lq.s;rfl)|apply PRun.s|(apply Lq.run;rfl;rfl;rfl;exact bsB)|(apply PRun.run;rfl;rfl;exact bsB));first|(apply op_ocell;rfl;exact bsM;rfl)|(apply op_slen;rfl)|(apply op_bne;rfl;rfl)|(apply op_oload (stO A1 xs1.length c1) (x:=m.sure.clock);rfl;exact bsM;rfl)|(exact bsO))|refine bsA ?_|(apply Lq.al;rfl;rfl;intro b)|(apply Open.cons;intro b)|refine bsC ?_)
        refine Lq.callS (Δ0:=stL A1 c1 xs1) (Δf:=own B 66 _::stL A2 c2 xs2) hcl rfl bsD (permP [[_],_,_] [0,1,2] [2,0,1] (by decide)) ?_
        rintro _ _ ⟨A',c',ys,hm2,rfl,rfl⟩
        rw [List.append_assoc]
        refine Lq.perm (permP [_,_,[_],_] [0,1,2,3] [2,0,1,3] (by decide)) ?_
        repeat (first|((first|(apply Lq.s;rfl)|apply PRun.s|(apply Lq.run;rfl;rfl;rfl;exact bsB)|(apply PRun.run;rfl;rfl;exact bsB));first|(exact bsO))|refine bsA ?_|(apply Lq.al;rfl;rfl;intro b)|(apply Open.cons;intro b)|refine bsC ?_)
        (refine J.ret ?_;(repeat (first|refine E.then_ret ?_|refine E.in_ret ?_)))
        refine E.retR1 (Δ':=mdl B ⟨true,true,m.sure,m.sure,0⟩ A1 c1 xs1 A' c' ys) (G:=stL A2 c2 xs2) rfl rfl ⟨rfl,_,_,_,_,_,_,⟨hf.1,hm2.trans hf.1⟩,rfl⟩ ?_
        unfold mdl
        rw [List.cons_append,List.append_assoc]
        exact List.Perm.refl _
  · cases hm:m.mnt with
    | false =>
      have e:turnM m 3 full=(m,240):=by unfold turnM errTurn;simp [hm]
      rw [e]
      repeat (first|((first|(apply Lq.s;rfl)|apply PRun.s|(apply Lq.run;rfl;rfl;rfl;exact bsB)|(apply PRun.run;rfl;rfl;exact bsB));first|(apply op_ocell;rfl;exact bsM;rfl)|(apply op_slen;rfl)|(apply op_bne;rfl;rfl)|(exact bsO))|refine bsA ?_|(apply Lq.al;rfl;rfl;intro b)|(apply Open.cons;intro b)|refine bsC ?_)
      (refine J.ret ?_;(repeat (first|refine E.then_ret ?_|refine E.in_ret ?_)))
      exact E.retR1 (Δ':=mdl B m A1 c1 xs1 A2 c2 xs2) (G:=[]) rfl rfl ⟨rfl,hmd⟩ (by rw [List.append_nil];unfold mdl mdC;simp only [hm];exact List.Perm.refl _)
    | true =>
      cases hfm:m.fmt with
      | false =>
        have e:turnM m 3 full=(⟨false,false,m.sure,m.sure,0⟩,0):=by unfold turnM errTurn;simp [hm,hfm]
        rw [e]
        repeat (first|((first|(apply Lq.s;rfl)|apply PRun.s|(apply Lq.run;rfl;rfl;rfl;exact bsB)|(apply PRun.run;rfl;rfl;exact bsB));first|(apply op_ocell;rfl;exact bsM;rfl)|(apply op_slen;rfl)|(apply op_bne;rfl;rfl)|(apply op_oload (stO A1 xs1.length c1) (x:=m.sure.clock);rfl;exact bsM;rfl)|(exact bsO))|refine bsA ?_|(apply Lq.al;rfl;rfl;intro b)|(apply Open.cons;intro b)|refine bsC ?_)
        refine Lq.callS (Δ0:=stL A1 c1 xs1) (Δf:=own B 66 _::stL A2 c2 xs2) hcl rfl bsD (permP [[_],_,_] [0,1,2] [2,0,1] (by decide)) ?_
        rintro _ _ ⟨A',c',ys,hm2,rfl,rfl⟩
        rw [List.append_assoc]
        refine Lq.perm (permP [_,_,[_],_] [0,1,2,3] [2,0,1,3] (by decide)) ?_
        repeat (first|((first|(apply Lq.s;rfl)|apply PRun.s|(apply Lq.run;rfl;rfl;rfl;exact bsB)|(apply PRun.run;rfl;rfl;exact bsB));first|(exact bsO))|refine bsA ?_|(apply Lq.al;rfl;rfl;intro b)|(apply Open.cons;intro b)|refine bsC ?_)
        (refine J.ret ?_;(repeat (first|refine E.then_ret ?_|refine E.in_ret ?_)))
        refine E.retR1 (Δ':=mdl B ⟨false,false,m.sure,m.sure,0⟩ A1 c1 xs1 A' c' ys) (G:=stL A2 c2 xs2) rfl rfl ⟨rfl,_,_,_,_,_,_,⟨hf.1,hm2.trans hf.1⟩,rfl⟩ ?_
        unfold mdl
        rw [List.cons_append,List.append_assoc]
        exact List.Perm.refl _
      | true =>
        have e:turnM m 3 full=(⟨true,false,m.sure,m.sure,0⟩,0):=by unfold turnM errTurn;simp [hm,hfm]
        rw [e]
        repeat (first|((first|(apply Lq.s;rfl)|apply PRun.s|(apply Lq.run;rfl;rfl;rfl;exact bsB)|(apply PRun.run;rfl;rfl;exact bsB));first|(apply op_ocell;rfl;exact bsM;rfl)|(apply op_slen;rfl)|(apply op_bne;rfl;rfl)|(apply op_oload (stO A1 xs1.length c1) (x:=m.sure.clock);rfl;exact bsM;rfl)|(exact bsO))|refine bsA ?_|(apply Lq.al;rfl;rfl;intro b)|(apply Open.cons;intro b)|refine bsC ?_)
        refine Lq.callS (Δ0:=stL A1 c1 xs1) (Δf:=own B 66 _::stL A2 c2 xs2) hcl rfl bsD (permP [[_],_,_] [0,1,2] [2,0,1] (by decide)) ?_
        rintro _ _ ⟨A',c',ys,hm2,rfl,rfl⟩
        rw [List.append_assoc]
        refine Lq.perm (permP [_,_,[_],_] [0,1,2,3] [2,0,1,3] (by decide)) ?_
        repeat (first|((first|(apply Lq.s;rfl)|apply PRun.s|(apply Lq.run;rfl;rfl;rfl;exact bsB)|(apply PRun.run;rfl;rfl;exact bsB));first|(exact bsO))|refine bsA ?_|(apply Lq.al;rfl;rfl;intro b)|(apply Open.cons;intro b)|refine bsC ?_)
        (refine J.ret ?_;(repeat (first|refine E.then_ret ?_|refine E.in_ret ?_)))
        refine E.retR1 (Δ':=mdl B ⟨true,false,m.sure,m.sure,0⟩ A1 c1 xs1 A' c' ys) (G:=stL A2 c2 xs2) rfl rfl ⟨rfl,_,_,_,_,_,_,⟨hf.1,hm2.trans hf.1⟩,rfl⟩ ?_
        unfold mdl
        rw [List.cons_append,List.append_assoc]
        exact List.Perm.refl _
end Go.Proofs.YtljbbajelkkafaaDoor.L
/-
  A model's shreds and steps,walked.
-/
namespace Go.Proofs.YtljbbajelkkafaaDoor.L
open Go
set_option linter.unusedSectionVars false
variable [Globs] [Has_sha_table] [Has_sha_begin]
set_option linter.unusedVariables false
theorem stepOf_seal {m:MM} {i:Nat} {s:MStr} {x:StepS} {full:Bool} (h:errS s m.cur.clock x=0) (hd:errDone m.todo full=0) (hk:x.kind=10):stepOf m i s x full=(sealM (updM m i (resS s m.cur.clock x)),0,0):=by
  unfold stepOf;rw [if_pos h,if_pos hd,if_pos hk,if_neg (by rw [hk];decide)]
theorem rec_z (t:Int) (b:Bool):agg (splice (splice (recT.cells (zRec 0 false)) 0 [is (.int .i64 t)]) 36 [is (.bool b)])=recT.val (zRec t b):=rfl
set_option linter.unusedVariables false
set_option linter.unusedSimpArgs false
attribute [local irreducible] J Lq E OpP PRun is any agg tup ptr sl PRunW OpE
attribute [local irreducible] slt row leafH shaH recsR OpR stL mdl
set_option maxHeartbeats 8000000 in
theorem mshred_fnR {B:Nat} {m:MM} {A1:Option Addr} {c1:Nat} {xs1:List MO} {nb no c2:Nat} {xs2:List MO} {K:Nat} {ss:MStr} {sa:Option Addr} {sc:Nat} (x:StepS) (full:Bool) (hf:fits m xs1 xs2) (hk:MOk m) (hs:xs2[K]?=some (ss,sa,sc)) (hkind:x.kind=10) :
    FnR Tryd.prog 63 [is (.pointer (some ⟨B,0,none⟩)),is (.pointer (some ⟨nb,no+K*4,none⟩)),is (.int .i64 x.n),is (.bool full)] (mdl B m A1 c1 xs1 (some ⟨nb,no,none⟩) c2 xs2)
    (fun ψ Δ=>ψ=is (.int .i64 (stepOf m K ss x full).2.2)∧mdV B (stepOf m K ss x full).1 Δ):=by
  have hmd:mdV B m (mdl B m A1 c1 xs1 (some ⟨nb,no,none⟩) c2 xs2):=⟨A1,c1,xs1,_,c2,xs2,hf,rfl⟩
  obtain ⟨hl2,hg2⟩:=fits_g hf.2 hk.cur
  obtain ⟨hrl,hhl⟩:ss.recs.length≤1000∧ss.holds.length≤1000:=hg2 _ (List.mem_of_getElem? hs)
  have hKl:=(List.getElem?_eq_some_iff.1 hs).1
  have hso:StrOk ss:=hk.cur.2 ss (List.mem_of_getElem? (map_at hf.2 hs))
  have hES:errS ss m.cur.clock x=errShredM ss m.cur.clock x.n:=by unfold errS;simp [hkind]
  have hrs:resS ss m.cur.clock x={ ss with recs:=shredR ss.recs x.n.toNat }:=by unfold resS;simp [hkind]
  generalize hxn:x.n=i at *
  refine FnR.mk' 74 Tryd.func63 rfl rfl rfl rfl fun w0 H0=>?_
  refine J.perm (mdl_open hs) ?_;obtain ⟨D,hD⟩ : ∃ D,D=recsR (xs2.eraseIdx K)++stL A1 c1 xs1:=⟨_,rfl⟩;rw [← hD];refine J.open (List.Perm.swap _ _ _) (by intro h;rw [h] at hs;simp at hs) ?_;intro mb mo cap pre post hR;obtain ⟨hv,hpre,hle,hcap,hroom,_⟩:=hR;injection hv with hA _ hc;cases hA;cases hc
  by_cases hi0:i < 0
  · rw [stepOf_err (hES.trans (errShred_range (.inl hi0))) (by decide)]
    repeat (first|((first|(apply Lq.s;rfl)|apply PRun.s|(apply Lq.run;rfl;rfl;rfl;exact bsB)|(apply PRun.run;rfl;rfl;exact bsB));first|(exact bsO))|refine bsA ?_|(apply Lq.al;rfl;rfl;intro b)|(apply Open.cons;intro b)|refine bsC ?_)
    (refine J.ret ?_;(repeat (first|refine E.then_ret ?_|refine E.in_ret ?_)))
    refine E.close mstrO.toTy xs2 (b:=nb) (o:=no) (cap:=c2) (by first|exact List.Perm.refl _|exact List.Perm.swap _ _ _) hroom hle hcap (take_rowT mstrO.toTy hpre) ?_
    exact E.retR1 (G:=[]) rfl rfl ⟨rfl,hmd⟩ (by rw [List.append_nil,hD];exact (List.Perm.swap _ _ _).trans (mdl_open hs).symm)
  by_cases hi1:(ss.recs.length:Int)≤i
  · rw [stepOf_err (hES.trans (errShred_range (.inr hi1))) (by decide)]
    repeat (first|((first|(apply Lq.s;rfl)|apply PRun.s|(apply Lq.run;rfl;rfl;rfl;exact bsB)|(apply PRun.run;rfl;rfl;exact bsB));first|(apply op_ocell (φ:=is (str ss.name));rfl;exact bsM;exact cell_rfld mstrO.toTy (k:=0) hpre hs (show 0 < 4 by decide))|(apply op_ocell (φ:=is (.int .i64 ss.retain));rfl;exact bsM;exact cell_rfld mstrO.toTy (k:=1) hpre hs (show 1 < 4 by decide))|(apply op_ocell (φ:=sl strT.toTy ss.holds);rfl;exact bsM;exact cell_rfld mstrO.toTy (k:=2) hpre hs (show 2 < 4 by decide))|(apply op_ocell (φ:=is (.slice sa ss.recs.length sc));rfl;exact bsM;exact cell_rfld mstrO.toTy (k:=3) hpre hs (show 3 < 4 by decide))|(apply op_slen;rfl)|(exact bsO))|refine bsA ?_|(apply Lq.al;rfl;rfl;intro b)|(apply Open.cons;intro b)|refine bsC ?_)
    (refine J.ret ?_;(repeat (first|refine E.then_ret ?_|refine E.in_ret ?_)))
    refine E.close mstrO.toTy xs2 (b:=nb) (o:=no) (cap:=c2) (by first|exact List.Perm.refl _|exact List.Perm.swap _ _ _) hroom hle hcap (take_rowT mstrO.toTy hpre) ?_
    exact E.retR1 (G:=[]) rfl rfl ⟨rfl,hmd⟩ (by rw [List.append_nil,hD];exact (List.Perm.swap _ _ _).trans (mdl_open hs).symm)
  obtain ⟨k,rfl⟩ : ∃ k:Nat,i=k:=⟨i.toNat,by omega⟩
  obtain ⟨r,hr⟩ : ∃ r,ss.recs[k]?=some r:=⟨_,List.getElem?_eq_getElem (by omega)⟩
  rw [errShred_in hr] at hES
  rw [Int.toNat_natCast,shredR_eq hr] at hrs
  have hmf:=may_fn (zRec r.time r.shred) ss.retain ss.holds.length m.cur.clock
  refine J.open (Δ':=own nb 79 _::own B 66 _::D) (permP [[_],[_],[_],_] [0,1,2,3] [2,0,1,3] (by decide)) (by intro h;rw [h] at hr;simp at hr) ?_
  intro ob oo ocap pre2 post2 hR2
  obtain ⟨hv2,hpre2,hle2,hcap2,hroom2,_⟩:=hR2
  injection hv2 with hA2 _ hc2
  cases hA2;cases hc2
  unfold mdC
  repeat (first|((first|(apply Lq.s;rfl)|apply PRun.s|(apply Lq.run;rfl;rfl;rfl;exact bsB)|(apply PRun.run;rfl;rfl;exact bsB));first|(apply op_ocell (φ:=is (.slice (some ⟨ob,oo,none⟩) ss.recs.length sc));rfl;exact bsM;exact cell_rfld mstrO.toTy (k:=3) hpre hs (show 3 < 4 by decide))|(apply op_ocell (φ:=is (.int .i64 ss.retain));rfl;exact bsM;exact cell_rfld mstrO.toTy (k:=1) hpre hs (show 1 < 4 by decide))|(apply op_ocell (φ:=sl strT.toTy ss.holds);rfl;exact bsM;exact cell_rfld mstrO.toTy (k:=2) hpre hs (show 2 < 4 by decide))|(apply op_slen;rfl)|(apply op_siaddr;rfl;rfl;omega;omega)|(exact bsO))|refine bsA ?_|(apply Lq.al;rfl;rfl;intro b)|(apply Open.cons;intro b)|refine bsC ?_)
  rw [Int.toNat_natCast]
  refine J.drawW 27 [(none,none),(none,none),(none,none),(none,none),(none,none),(none,none),(none,none),(none,none),(none,none),(none,none),(none,none),(none,none),(none,none),(none,none),(none,none),(none,none),(none,none),(none,none),(none,none),(none,none),(none,none),(none,none),(none,none),(none,none),(none,none),(none,none),(none,none)] mixed (by kernel_rfl) ?_
  by_cases hm0:mayM (zRec r.time r.shred) ss.retain ss.holds.length m.cur.clock=0
  · have hE0:errS ss m.cur.clock x=0:=by rw [hES,hm0]
    rw [hm0] at hmf
    repeat (first|((first|apply PRunW.s|(apply PRunW.run;rfl;rfl;exact bsB)|(apply Lq.s;rfl)|apply PRun.s|(apply Lq.run;rfl;rfl;rfl;exact bsB)|(apply PRun.run;rfl;rfl;exact bsB));first|(apply op_ocell (φ:=is (.slice (some ⟨ob,oo,none⟩) ss.recs.length sc));rfl;exact bsM;exact cell_rfld mstrO.toTy (k:=3) hpre hs (show 3 < 4 by decide))|(apply op_ocell (φ:=is (.int .i64 ss.retain));rfl;exact bsM;exact cell_rfld mstrO.toTy (k:=1) hpre hs (show 1 < 4 by decide))|(apply op_ocell (φ:=sl strT.toTy ss.holds);rfl;exact bsM;exact cell_rfld mstrO.toTy (k:=2) hpre hs (show 2 < 4 by decide))|(apply op_ocell (φ:=is (.int .i64 r.time));rfl;exact bsM;exact cell_rfld mrecT.toTy (k:=0) hpre2 hr (show 0 < 35 by decide))|(apply op_ocell (φ:=is (.bool r.shred));rfl;exact bsM;exact cell_rfld mrecT.toTy (k:=2) hpre2 hr (show 2 < 35 by decide))|(apply op_ocell;rfl;exact bsM;rfl)|(apply op_slen;rfl)|(apply op_len (xs:=ss.holds);rfl)|(apply op_call hmf;exact bsD)|(exact bsO))|refine bsA ?_|(apply Lq.al;rfl;rfl;intro b)|(apply Open.cons;intro b)|refine bsC ?_|apply PRunW.nil|(apply PRunW.al;rfl)|(apply PRunW.pass;rfl;rfl)|(apply PRunW.skip;rfl;rfl;exact bsB)|(apply Open.pv;intro b)|apply Open.av|(apply Open.rv;intro A c))
    by_cases hd:errDone m.todo full=0
    · rw [stepOf_seal hE0 hd hkind,hrs]
      refine Lq.callS (Δ0:=[_]) (Δf:=own ob 81 _::own nb 79 _::D) (mdone_ok full hd) rfl bsD (permP [[_],[_],[_],_] [0,1,2,3] [2,0,1,3] (by decide)) ?_
      rintro _ _ ⟨rfl,rfl⟩
      obtain ⟨r1,hr1⟩ : ∃ r1:MRec,r1={ r with shred:=true }:=⟨_,rfl⟩
      obtain ⟨r2,hr2⟩ : ∃ r2:MRec,r2={ r with shred:=true,text:=[] }:=⟨_,rfl⟩
      obtain ⟨S',hS'⟩ : ∃ S':MStr,S'={ ss with recs:=ss.recs.set k r2 }:=⟨_,rfl⟩
      rw [← hr2, ← hS']
      have hkl:=(List.getElem?_eq_some_iff.1 hr).1
      have hx1:(ss.recs.set k r1)[k]?=some r1:=List.getElem?_set_self hkl
      have hrec:S'.recs=ss.recs.set k r2:=by rw [hS']
      have hset:(ss.recs.set k r1).set k r2=ss.recs.set k r2:=List.set_set ..
      have hrll:S'.recs.length=ss.recs.length:=by rw [hrec,List.length_set]
      repeat (first|((first|(apply Lq.s;rfl)|apply PRun.s|(apply Lq.run;rfl;rfl;rfl;exact bsB)|(apply PRun.run;rfl;rfl;exact bsB));first|(exact bsO))|refine bsA ?_|(apply Lq.al;rfl;rfl;intro b)|(apply Open.cons;intro b)|refine bsC ?_)
      refine Lq.storeE (φs':=pre2++flat mrecT.toTy (ss.recs.set k r1)++post2) rfl rfl (List.Perm.swap _ _ _) (Seg.is rfl) rfl (room_rfld mrecT.toTy (k:=2) (n:=1) hpre2 hr (show 2+1≤35 by decide)) (set_rfld mrecT.toTy (post:=post2) (v:=r1) hpre2 hr (k:=2) (show 2+1≤35 by decide) (by rw [hr1];rfl)) ?_
      repeat (first|((first|(apply Lq.s;rfl)|apply PRun.s|(apply Lq.run;rfl;rfl;rfl;exact bsB)|(apply PRun.run;rfl;rfl;exact bsB));first|(exact bsO))|refine bsA ?_|(apply Lq.al;rfl;rfl;intro b)|(apply Open.cons;intro b)|refine bsC ?_)
      refine Lq.storeE (φs':=pre2++flat mrecT.toTy S'.recs++post2) rfl rfl (List.Perm.refl _) (Seg.is rfl) rfl (room_rfld mrecT.toTy (k:=1) (n:=1) hpre2 hx1 (show 1+1≤35 by decide)) (by rw [hrec, ← hset];exact set_rfld mrecT.toTy (post:=post2) (seg:=[is (.string ⟨#[]⟩)]) (v:=r2) hpre2 hx1 (k:=1) (show 1+1≤35 by decide) (by rw [hr1,hr2];rfl)) ?_
      repeat (first|((first|(apply Lq.s;rfl)|apply PRun.s|(apply Lq.run;rfl;rfl;rfl;exact bsB)|(apply PRun.run;rfl;rfl;exact bsB));first|(exact bsO))|refine bsA ?_|(apply Lq.al;rfl;rfl;intro b)|(apply Open.cons;intro b)|refine bsC ?_)
      refine Lq.close mrecT.toTy S'.recs (b:=ob) (o:=oo) (cap:=sc) (List.Perm.refl _) (by rw [hrec];exact set_len' mrecT.toTy hroom2) (by rw [hrll];exact hle2) hcap2 (take_rowT mrecT.toTy hpre2) ?_
      have hfs:=flat_set_same mstrO.toTy (v:=(S',some ⟨ob,oo,none⟩,sc)) hs (by
        show [is (str S'.name),is (.int .i64 S'.retain),sl strT.toTy S'.holds,is (.slice (some ⟨ob,oo,none⟩) S'.recs.length sc)]=_
        rw [hrll,hS'];rfl)
      refine Lq.close mstrO.toTy (xs2.set K (S',some ⟨ob,oo,none⟩,sc)) (b:=nb) (o:=no) (cap:=c2) (Δ':=row _ _ _ _::own B 66 _::D) (permP [[_],[_],[_],_] [0,1,2,3] [2,0,1,3] (by decide)) hroom (by rw [List.length_set];exact hle) hcap (by rw [List.length_set,hfs];exact take_rowT mstrO.toTy hpre) ?_
      refine Lq.callS (Δ0:=mdl B (updM m K S') A1 c1 xs1 (some ⟨nb,no,none⟩) c2 (xs2.set K (S',some ⟨ob,oo,none⟩,sc))) (Δf:=[]) (mseal_fnR (fits_upd hf K (S',some ⟨ob,oo,none⟩,sc)) (by rw [List.length_set];omega) (fun y hy=>by
        rcases List.mem_or_eq_of_mem_set hy with h1|h1
        · exact hg2 y h1
        · rw [h1]
          exact ⟨by show S'.recs.length≤1000;omega,by show S'.holds.length≤1000;rw [hS'];exact hhl⟩)) rfl bsD (by
        have:=mdl_put (B:=B) (m:=updM m K S') (A1:=A1) (c1:=c1) (xs1:=xs1) (A2:=some ⟨nb,no,none⟩) (c2:=c2) (S',some ⟨ob,oo,none⟩,sc) hKl
        rw [List.append_nil]
        rw [List.length_set] at this ⊢
        refine List.Perm.trans ?_ this
        rw [hD]
        exact permP [[_],[_],[_],_] [0,1,2,3] [2,0,1,3] (by decide)) ?_
      rintro _ D2 ⟨rfl,hV⟩
      rw [List.append_nil]
      repeat (first|((first|(apply Lq.s;rfl)|apply PRun.s|(apply Lq.run;rfl;rfl;rfl;exact bsB)|(apply PRun.run;rfl;rfl;exact bsB));first|(exact bsO))|refine bsA ?_|(apply Lq.al;rfl;rfl;intro b)|(apply Open.cons;intro b)|refine bsC ?_)
      (refine J.ret ?_;(repeat (first|refine E.then_ret ?_|refine E.in_ret ?_)))
      exact E.retR1 (G:=[]) rfl rfl ⟨rfl,hV⟩ (by rw [List.append_nil])
    · rw [stepOf_done hE0 hd]
      have hdb:=mdone_bad (B:=B) (m:=m) (A1:=A1) (n1:=xs1.length) (c1:=c1) (A2:=some ⟨nb,no,none⟩) (n2:=xs2.length) (c2:=c2) full hd
      refine Lq.callS (Δ0:=[_]) (Δf:=own ob 81 _::own nb 79 _::D) hdb rfl bsD (permP [[_],[_],[_],_] [0,1,2,3] [2,0,1,3] (by decide)) ?_
      rintro _ _ ⟨rfl,rfl⟩
      generalize errDone m.todo full=ed at *
      repeat (first|((first|(apply Lq.s;rfl)|apply PRun.s|(apply Lq.run;rfl;rfl;rfl;exact bsB)|(apply PRun.run;rfl;rfl;exact bsB));first|(exact bsO))|refine bsA ?_|(apply Lq.al;rfl;rfl;intro b)|(apply Open.cons;intro b)|refine bsC ?_)
      (refine J.ret ?_;(repeat (first|refine E.then_ret ?_|refine E.in_ret ?_)))
      refine E.close mrecT.toTy ss.recs (b:=ob) (o:=oo) (cap:=sc) (List.Perm.swap _ _ _) hroom2 hle2 hcap2 (take_rowT mrecT.toTy hpre2) ?_
      refine E.close mstrO.toTy xs2 (b:=nb) (o:=no) (cap:=c2) (Δ':=row _ _ _ _::own B 66 _::D) (permP [[_],[_],[_],_] [0,1,2,3] [2,0,1,3] (by decide)) hroom hle hcap (take_rowT mstrO.toTy hpre) ?_
      exact E.retR1 (G:=[]) rfl rfl ⟨rfl,hmd⟩ (by rw [List.append_nil,hD];exact (permP [[_],[_],[_],_] [0,1,2,3] [2,0,1,3] (by decide)).trans (mdl_open hs).symm)
  · rw [stepOf_err hES hm0]
    generalize mayM (zRec r.time r.shred) ss.retain ss.holds.length m.cur.clock=me at *
    repeat (first|((first|apply PRunW.s|(apply PRunW.run;rfl;rfl;exact bsB)|(apply Lq.s;rfl)|apply PRun.s|(apply Lq.run;rfl;rfl;rfl;exact bsB)|(apply PRun.run;rfl;rfl;exact bsB));first|(apply op_ocell (φ:=is (.slice (some ⟨ob,oo,none⟩) ss.recs.length sc));rfl;exact bsM;exact cell_rfld mstrO.toTy (k:=3) hpre hs (show 3 < 4 by decide))|(apply op_ocell (φ:=is (.int .i64 ss.retain));rfl;exact bsM;exact cell_rfld mstrO.toTy (k:=1) hpre hs (show 1 < 4 by decide))|(apply op_ocell (φ:=sl strT.toTy ss.holds);rfl;exact bsM;exact cell_rfld mstrO.toTy (k:=2) hpre hs (show 2 < 4 by decide))|(apply op_ocell (φ:=is (.int .i64 r.time));rfl;exact bsM;exact cell_rfld mrecT.toTy (k:=0) hpre2 hr (show 0 < 35 by decide))|(apply op_ocell (φ:=is (.bool r.shred));rfl;exact bsM;exact cell_rfld mrecT.toTy (k:=2) hpre2 hr (show 2 < 35 by decide))|(apply op_ocell;rfl;exact bsM;rfl)|(apply op_slen;rfl)|(apply op_len (xs:=ss.holds);rfl)|(apply op_call hmf;exact bsD)|(exact bsO))|refine bsA ?_|(apply Lq.al;rfl;rfl;intro b)|(apply Open.cons;intro b)|refine bsC ?_|apply PRunW.nil|(apply PRunW.al;rfl)|(apply PRunW.pass;rfl;rfl)|(apply PRunW.skip;rfl;rfl;exact bsB)|(apply Open.pv;intro b)|apply Open.av|(apply Open.rv;intro A c))
    repeat (first|((first|(apply Lq.s;rfl)|apply PRun.s|(apply Lq.run;rfl;rfl;rfl;exact bsB)|(apply PRun.run;rfl;rfl;exact bsB));first|(exact bsO))|refine bsA ?_|(apply Lq.al;rfl;rfl;intro b)|(apply Open.cons;intro b)|refine bsC ?_)
    (refine J.ret ?_;(repeat (first|refine E.then_ret ?_|refine E.in_ret ?_)))
    refine E.close mrecT.toTy ss.recs (b:=ob) (o:=oo) (cap:=sc) (List.Perm.refl _) hroom2 hle2 hcap2 (take_rowT mrecT.toTy hpre2) ?_
    refine E.close mstrO.toTy xs2 (b:=nb) (o:=no) (cap:=c2) (List.Perm.swap _ _ _) hroom hle hcap (take_rowT mstrO.toTy hpre) ?_
    exact E.retR1 (G:=[]) rfl rfl ⟨rfl,hmd⟩ (by rw [List.append_nil,hD];exact (permP [[_],[_],[_],_] [0,1,2,3] [2,0,1,3] (by decide)).trans (mdl_open hs).symm)
end Go.Proofs.YtljbbajelkkafaaDoor.L
/-
  A model's steps,walked.
-/
namespace Go.Proofs.YtljbbajelkkafaaDoor.L
open Go
set_option linter.unusedSectionVars false
variable [Globs] [Has_sha_table] [Has_sha_begin]
set_option linter.unusedVariables false
theorem stepOf_n {m:MM} {i:Nat} {s:MStr} {x:StepS} {full:Bool} (h:x.kind ≠ 5):(stepOf m i s x full).2.1=0:=by
  unfold stepOf
  split
  · split
    · first
      | rfl
      | (show (if x.kind=5 then _ else _)=_
         rw [if_neg h])
    · rfl
  · rfl
set_option linter.unusedVariables false
set_option linter.unusedSimpArgs false
attribute [local irreducible] J Lq E OpP PRun is any agg tup ptr sl PRunW OpE
attribute [local irreducible] slt row leafH shaH recsR OpR stL mdl
set_option maxHeartbeats 8000000 in
theorem mof_fnR {B:Nat} {m:MM} {A1:Option Addr} {c1:Nat} {xs1:List MO} {A2:Option Addr} {c2:Nat} {xs2:List MO} (x:StepS) (full:Bool) (hf:fits m xs1 xs2) (hk:MOk m) (hkk:x.kind=5 ∨ x.kind=7 ∨ x.kind=8 ∨ x.kind=9 ∨ x.kind=10) :
    FnR Tryd.prog 36 [is (.pointer (some ⟨B,0,none⟩)),stepT.val x,is (.bool full)] (mdl B m A1 c1 xs1 A2 c2 xs2)
    (fun ψ Δ=>ψ=tup [is (.int .i64 (ofM m x full).2.1),is (str []),is (.int .i64 (ofM m x full).2.2)]∧mdV B (ofM m x full).1 Δ):=by
  have hmd:mdV B m (mdl B m A1 c1 xs1 A2 c2 xs2):=⟨A1,c1,xs1,A2,c2,xs2,hf,rfl⟩
  by_cases h:errFind m x.name=0
  · obtain ⟨⟨ss,sa,sc⟩,hs,hs1,hlt⟩:=find_x hf.2 (find_ok0 h).2
    dsimp only at hs1
    rw [ofM_ok h, ← hs1]
    have hfo:=mfind_ok (B:=B) (A1:=A1) (c1:=c1) (A2:=A2) (c2:=c2) x.name hf hk h
    generalize findN m.cur.streams x.name=K at *
    refine FnR.mk' 65 Tryd.func36 rfl rfl rfl rfl fun w0 H0=>?_
    repeat (first|((first|(apply Lq.s;rfl)|apply PRun.s|(apply Lq.run;rfl;rfl;rfl;exact bsB)|(apply PRun.run;rfl;rfl;exact bsB));first|(exact bsE)|(exact bsO))|refine bsA ?_|(apply Lq.al;rfl;rfl;intro b)|(apply Open.cons;intro b)|refine bsC ?_)
    refine Lq.callS (Δ0:=mdl B m A1 c1 xs1 A2 c2 xs2) (Δf:=[]) hfo rfl bsD (by rw [List.append_nil]) ?_
    rintro _ _ ⟨nb,no,rfl,rfl,rfl⟩
    rw [List.append_nil]
    rcases hkk with hk5|hk5|hk5|hk5|hk5
    · have hh:=madd_fnR (B:=B) (A1:=A1) (c1:=c1) (nb:=nb) (no:=no) (c2:=c2) x full hf hk hs hk5
      generalize stepOf m K ss x full=q at *
      repeat (first|((first|(apply Lq.s;rfl)|apply PRun.s|(apply Lq.run;rfl;rfl;rfl;exact bsB)|(apply PRun.run;rfl;rfl;exact bsB));first|(exact bsE)|(exact bsO))|refine bsA ?_|(apply Lq.al;rfl;rfl;intro b)|(apply Open.cons;intro b)|refine bsC ?_)
      refine Lq.callS (Δ0:=mdl B m A1 c1 xs1 (some ⟨nb,no,none⟩) c2 xs2) (Δf:=[]) hh rfl bsD (by rw [List.append_nil]) ?_
      rintro _ D2 ⟨rfl,hV⟩
      rw [List.append_nil]
      repeat (first|((first|(apply Lq.s;rfl)|apply PRun.s|(apply Lq.run;rfl;rfl;rfl;exact bsB)|(apply PRun.run;rfl;rfl;exact bsB));first|(exact bsE)|(exact bsO))|refine bsA ?_|(apply Lq.al;rfl;rfl;intro b)|(apply Open.cons;intro b)|refine bsC ?_)
      (refine J.ret ?_;(repeat (first|refine E.then_ret ?_|refine E.in_ret ?_)))
      exact E.retR3 (G:=[]) rfl rfl rfl rfl ⟨rfl,hV⟩ (by rw [List.append_nil])
    · have hh:=mretain_fnR (B:=B) (A1:=A1) (c1:=c1) (nb:=nb) (no:=no) (c2:=c2) x full hf hk hs hk5
      have hq:=stepOf_n (m:=m) (i:=K) (s:=ss) (full:=full) (show x.kind ≠ 5 by rw [hk5];decide)
      generalize stepOf m K ss x full=q at *
      rw [hq]
      repeat (first|((first|(apply Lq.s;rfl)|apply PRun.s|(apply Lq.run;rfl;rfl;rfl;exact bsB)|(apply PRun.run;rfl;rfl;exact bsB));first|(exact bsE)|(exact bsO))|refine bsA ?_|(apply Lq.al;rfl;rfl;intro b)|(apply Open.cons;intro b)|refine bsC ?_)
      refine Lq.callS (Δ0:=mdl B m A1 c1 xs1 (some ⟨nb,no,none⟩) c2 xs2) (Δf:=[]) hh rfl bsD (by rw [List.append_nil]) ?_
      rintro _ D2 ⟨rfl,hV⟩
      rw [List.append_nil]
      repeat (first|((first|(apply Lq.s;rfl)|apply PRun.s|(apply Lq.run;rfl;rfl;rfl;exact bsB)|(apply PRun.run;rfl;rfl;exact bsB));first|(exact bsE)|(exact bsO))|refine bsA ?_|(apply Lq.al;rfl;rfl;intro b)|(apply Open.cons;intro b)|refine bsC ?_)
      (refine J.ret ?_;(repeat (first|refine E.then_ret ?_|refine E.in_ret ?_)))
      exact E.retR3 (G:=[]) rfl rfl rfl rfl ⟨rfl,hV⟩ (by rw [List.append_nil])
    · have hh:=mhold_fnR (B:=B) (A1:=A1) (c1:=c1) (nb:=nb) (no:=no) (c2:=c2) x full hf hk hs hk5
      have hq:=stepOf_n (m:=m) (i:=K) (s:=ss) (full:=full) (show x.kind ≠ 5 by rw [hk5];decide)
      generalize stepOf m K ss x full=q at *
      rw [hq]
      repeat (first|((first|(apply Lq.s;rfl)|apply PRun.s|(apply Lq.run;rfl;rfl;rfl;exact bsB)|(apply PRun.run;rfl;rfl;exact bsB));first|(exact bsE)|(exact bsO))|refine bsA ?_|(apply Lq.al;rfl;rfl;intro b)|(apply Open.cons;intro b)|refine bsC ?_)
      refine Lq.callS (Δ0:=mdl B m A1 c1 xs1 (some ⟨nb,no,none⟩) c2 xs2) (Δf:=[]) hh rfl bsD (by rw [List.append_nil]) ?_
      rintro _ D2 ⟨rfl,hV⟩
      rw [List.append_nil]
      repeat (first|((first|(apply Lq.s;rfl)|apply PRun.s|(apply Lq.run;rfl;rfl;rfl;exact bsB)|(apply PRun.run;rfl;rfl;exact bsB));first|(exact bsE)|(exact bsO))|refine bsA ?_|(apply Lq.al;rfl;rfl;intro b)|(apply Open.cons;intro b)|refine bsC ?_)
      (refine J.ret ?_;(repeat (first|refine E.then_ret ?_|refine E.in_ret ?_)))
      exact E.retR3 (G:=[]) rfl rfl rfl rfl ⟨rfl,hV⟩ (by rw [List.append_nil])
    · have hh:=mrelease_fnR (B:=B) (A1:=A1) (c1:=c1) (nb:=nb) (no:=no) (c2:=c2) x full hf hk hs hk5
      have hq:=stepOf_n (m:=m) (i:=K) (s:=ss) (full:=full) (show x.kind ≠ 5 by rw [hk5];decide)
      generalize stepOf m K ss x full=q at *
      rw [hq]
      repeat (first|((first|(apply Lq.s;rfl)|apply PRun.s|(apply Lq.run;rfl;rfl;rfl;exact bsB)|(apply PRun.run;rfl;rfl;exact bsB));first|(exact bsE)|(exact bsO))|refine bsA ?_|(apply Lq.al;rfl;rfl;intro b)|(apply Open.cons;intro b)|refine bsC ?_)
      refine Lq.callS (Δ0:=mdl B m A1 c1 xs1 (some ⟨nb,no,none⟩) c2 xs2) (Δf:=[]) hh rfl bsD (by rw [List.append_nil]) ?_
      rintro _ D2 ⟨rfl,hV⟩
      rw [List.append_nil]
      repeat (first|((first|(apply Lq.s;rfl)|apply PRun.s|(apply Lq.run;rfl;rfl;rfl;exact bsB)|(apply PRun.run;rfl;rfl;exact bsB));first|(exact bsE)|(exact bsO))|refine bsA ?_|(apply Lq.al;rfl;rfl;intro b)|(apply Open.cons;intro b)|refine bsC ?_)
      (refine J.ret ?_;(repeat (first|refine E.then_ret ?_|refine E.in_ret ?_)))
      exact E.retR3 (G:=[]) rfl rfl rfl rfl ⟨rfl,hV⟩ (by rw [List.append_nil])
    · have hh:=mshred_fnR (B:=B) (A1:=A1) (c1:=c1) (nb:=nb) (no:=no) (c2:=c2) x full hf hk hs hk5
      have hq:=stepOf_n (m:=m) (i:=K) (s:=ss) (full:=full) (show x.kind ≠ 5 by rw [hk5];decide)
      generalize stepOf m K ss x full=q at *
      rw [hq]
      repeat (first|((first|(apply Lq.s;rfl)|apply PRun.s|(apply Lq.run;rfl;rfl;rfl;exact bsB)|(apply PRun.run;rfl;rfl;exact bsB));first|(exact bsE)|(exact bsO))|refine bsA ?_|(apply Lq.al;rfl;rfl;intro b)|(apply Open.cons;intro b)|refine bsC ?_)
      refine Lq.callS (Δ0:=mdl B m A1 c1 xs1 (some ⟨nb,no,none⟩) c2 xs2) (Δf:=[]) hh rfl bsD (by rw [List.append_nil]) ?_
      rintro _ D2 ⟨rfl,hV⟩
      rw [List.append_nil]
      repeat (first|((first|(apply Lq.s;rfl)|apply PRun.s|(apply Lq.run;rfl;rfl;rfl;exact bsB)|(apply PRun.run;rfl;rfl;exact bsB));first|(exact bsE)|(exact bsO))|refine bsA ?_|(apply Lq.al;rfl;rfl;intro b)|(apply Open.cons;intro b)|refine bsC ?_)
      (refine J.ret ?_;(repeat (first|refine E.then_ret ?_|refine E.in_ret ?_)))
      exact E.retR3 (G:=[]) rfl rfl rfl rfl ⟨rfl,hV⟩ (by rw [List.append_nil])
  · have e:ofM m x full=(m,0,errFind m x.name):=by unfold ofM;rw [if_neg h]
    rw [e]
    have hfb:=mfind_bad (B:=B) (A1:=A1) (c1:=c1) (A2:=A2) (c2:=c2) x.name hf hk h
    generalize errFind m x.name=ef at *
    refine FnR.mk' 65 Tryd.func36 rfl rfl rfl rfl fun w0 H0=>?_
    repeat (first|((first|(apply Lq.s;rfl)|apply PRun.s|(apply Lq.run;rfl;rfl;rfl;exact bsB)|(apply PRun.run;rfl;rfl;exact bsB));first|(exact bsE)|(exact bsO))|refine bsA ?_|(apply Lq.al;rfl;rfl;intro b)|(apply Open.cons;intro b)|refine bsC ?_)
    refine Lq.callS (Δ0:=mdl B m A1 c1 xs1 A2 c2 xs2) (Δf:=[]) hfb rfl bsD (by rw [List.append_nil]) ?_
    rintro _ _ ⟨rfl,rfl⟩
    rw [List.append_nil]
    repeat (first|((first|(apply Lq.s;rfl)|apply PRun.s|(apply Lq.run;rfl;rfl;rfl;exact bsB)|(apply PRun.run;rfl;rfl;exact bsB));first|(exact bsO))|refine bsA ?_|(apply Lq.al;rfl;rfl;intro b)|(apply Open.cons;intro b)|refine bsC ?_)
    (refine J.ret ?_;(repeat (first|refine E.then_ret ?_|refine E.in_ret ?_)))
    exact E.retR3 (G:=[]) rfl rfl rfl rfl ⟨rfl,hmd⟩ (by rw [List.append_nil])
set_option maxHeartbeats 8000000 in
theorem mdo_fnR {B:Nat} {m:MM} {A1:Option Addr} {c1:Nat} {xs1:List MO} {A2:Option Addr} {c2:Nat} {xs2:List MO} (x:StepS) (full:Bool) (hf:fits m xs1 xs2) (hk:MOk m) :
    FnR Tryd.prog 19 [is (.pointer (some ⟨B,0,none⟩)),stepT.val x,is (.bool full)] (mdl B m A1 c1 xs1 A2 c2 xs2)
    (fun ψ Δ=>ψ=tup [is (.int .i64 (doM m x full).2.1),is (str []),is (.int .i64 (doM m x full).2.2)]∧mdV B (doM m x full).1 Δ):=by
  have hmd:mdV B m (mdl B m A1 c1 xs1 A2 c2 xs2):=⟨A1,c1,xs1,A2,c2,xs2,hf,rfl⟩
  refine FnR.mk' 75 Tryd.func19 rfl rfl rfl rfl fun w0 H0=>?_
  rw [mdl_eq] at hmd ⊢
  obtain ⟨D,hD⟩ : ∃ D,D=row (.slice A2 xs2.length c2) 79 mstrO.toTy xs2::(recsR xs2++stL A1 c1 xs1):=⟨_,rfl⟩
  rw [← hD] at hmd ⊢
  have hback:own B 66 (mdC m A1 xs1.length c1 A2 xs2.length c2)::D=mdl B m A1 c1 xs1 A2 c2 xs2:=by rw [mdl_eq,hD]
  repeat (first|((first|(apply Lq.s;rfl)|apply PRun.s|(apply Lq.run;rfl;rfl;rfl;exact bsB)|(apply PRun.run;rfl;rfl;exact bsB));first|(exact bsE)|(exact bsO))|refine bsA ?_|(apply Lq.al;rfl;rfl;intro b)|(apply Open.cons;intro b)|refine bsC ?_)
  refine Lq.callS (Δ0:=[_]) (Δf:=D) (mnone_fnR B _ rfl) rfl bsD (List.Perm.refl _) ?_
  rintro _ _ ⟨rfl,rfl⟩
  unfold doM
  by_cases k1:x.kind=1 ∨ x.kind=2 ∨ x.kind=3
  · rw [if_pos k1]
    have hh:=mturn_fnR (B:=B) (A1:=A1) (c1:=c1) (A2:=A2) (c2:=c2) x.kind full hf hk k1
    generalize turnM m x.kind full=q at *
    unfold flat0
    rcases k1 with k1|k1|k1
    all_goals
      repeat (first|((first|(apply Lq.s;rfl)|apply PRun.s|(apply Lq.run;rfl;rfl;rfl;exact bsB)|(apply PRun.run;rfl;rfl;exact bsB));first|(exact bsE)|(exact bsO))|refine bsA ?_|(apply Lq.al;rfl;rfl;intro b)|(apply Open.cons;intro b)|refine bsC ?_)
      refine Lq.callS (Δ0:=mdl B m A1 c1 xs1 A2 c2 xs2) (Δf:=[]) hh rfl bsD (by rw [List.append_nil, ← hback];exact List.Perm.refl _) ?_
      rintro _ D2 ⟨rfl,hV⟩
      rw [List.append_nil]
      repeat (first|((first|(apply Lq.s;rfl)|apply PRun.s|(apply Lq.run;rfl;rfl;rfl;exact bsB)|(apply PRun.run;rfl;rfl;exact bsB));first|(exact bsO))|refine bsA ?_|(apply Lq.al;rfl;rfl;intro b)|(apply Open.cons;intro b)|refine bsC ?_)
      (refine J.ret ?_;(repeat (first|refine E.then_ret ?_|refine E.in_ret ?_)))
      exact E.retR3 (G:=[]) rfl rfl rfl rfl ⟨rfl,hV⟩ (by rw [List.append_nil])
  rw [if_neg k1]
  by_cases k4:x.kind=4
  · rw [if_pos k4]
    have hh:=mcreate_fnR (B:=B) (A1:=A1) (c1:=c1) (A2:=A2) (c2:=c2) x.name full hf hk
    generalize createMM m x.name full=q at *
    unfold flat0
    repeat (first|((first|(apply Lq.s;rfl)|apply PRun.s|(apply Lq.run;rfl;rfl;rfl;exact bsB)|(apply PRun.run;rfl;rfl;exact bsB));first|(exact bsE)|(exact bsO))|refine bsA ?_|(apply Lq.al;rfl;rfl;intro b)|(apply Open.cons;intro b)|refine bsC ?_)
    refine Lq.callS (Δ0:=mdl B m A1 c1 xs1 A2 c2 xs2) (Δf:=[]) hh rfl bsD (by rw [List.append_nil, ← hback];exact List.Perm.refl _) ?_
    rintro _ D2 ⟨rfl,hV⟩
    rw [List.append_nil]
    repeat (first|((first|(apply Lq.s;rfl)|apply PRun.s|(apply Lq.run;rfl;rfl;rfl;exact bsB)|(apply PRun.run;rfl;rfl;exact bsB));first|(exact bsO))|refine bsA ?_|(apply Lq.al;rfl;rfl;intro b)|(apply Open.cons;intro b)|refine bsC ?_)
    (refine J.ret ?_;(repeat (first|refine E.then_ret ?_|refine E.in_ret ?_)))
    exact E.retR3 (G:=[]) rfl rfl rfl rfl ⟨rfl,hV⟩ (by rw [List.append_nil])
  rw [if_neg k4]
  by_cases k6:x.kind=6
  · rw [if_pos k6]
    have hh:=msync_fnR (B:=B) (A1:=A1) (c1:=c1) (A2:=A2) (c2:=c2) full hf hk
    generalize syncM m full=q at *
    unfold flat0
    repeat (first|((first|(apply Lq.s;rfl)|apply PRun.s|(apply Lq.run;rfl;rfl;rfl;exact bsB)|(apply PRun.run;rfl;rfl;exact bsB));first|(exact bsE)|(exact bsO))|refine bsA ?_|(apply Lq.al;rfl;rfl;intro b)|(apply Open.cons;intro b)|refine bsC ?_)
    refine Lq.callS (Δ0:=mdl B m A1 c1 xs1 A2 c2 xs2) (Δf:=[]) hh rfl bsD (by rw [List.append_nil, ← hback];exact List.Perm.refl _) ?_
    rintro _ D2 ⟨rfl,hV⟩
    rw [List.append_nil]
    repeat (first|((first|(apply Lq.s;rfl)|apply PRun.s|(apply Lq.run;rfl;rfl;rfl;exact bsB)|(apply PRun.run;rfl;rfl;exact bsB));first|(exact bsO))|refine bsA ?_|(apply Lq.al;rfl;rfl;intro b)|(apply Open.cons;intro b)|refine bsC ?_)
    (refine J.ret ?_;(repeat (first|refine E.then_ret ?_|refine E.in_ret ?_)))
    exact E.retR3 (G:=[]) rfl rfl rfl rfl ⟨rfl,hV⟩ (by rw [List.append_nil])
  rw [if_neg k6]
  by_cases k11:x.kind=11
  · rw [if_pos k11]
    unfold flat0
    unfold mdC
    cases hm:m.mnt with
    | false =>
      have e:tickMM m x.n=(m,240):=by unfold tickMM;rw [hm];rfl
      rw [e]
      repeat (first|((first|(apply Lq.s;rfl)|apply PRun.s|(apply Lq.run;rfl;rfl;rfl;exact bsB)|(apply PRun.run;rfl;rfl;exact bsB));first|(exact bsE)|(apply op_ocell;rfl;exact bsM;rfl)|(apply op_slen;rfl)|(exact bsO))|refine bsA ?_|(apply Lq.al;rfl;rfl;intro b)|(apply Open.cons;intro b)|refine bsC ?_)
      (refine J.ret ?_;(repeat (first|refine E.then_ret ?_|refine E.in_ret ?_)))
      exact E.retR3 (Δ':=mdl B m A1 c1 xs1 A2 c2 xs2) (G:=[]) rfl rfl rfl rfl ⟨rfl,hback ▸ hmd⟩ (by rw [List.append_nil, ← hback];unfold mdC;rw [hm];exact List.Perm.refl _)
    | true =>
      have ht:=tick_fn m.cur.clock x.n
      by_cases h0:(tickM m.cur.clock x.n).2=0
      · have e:tickMM m x.n=({ m with cur:=⟨(tickM m.cur.clock x.n).1,m.cur.streams⟩ },0):=by unfold tickMM;rw [hm,if_pos rfl,if_pos h0]
        rw [e]
        rw [h0] at ht
        generalize (tickM m.cur.clock x.n).1=tc at *
        repeat (first|((first|(apply Lq.s;rfl)|apply PRun.s|(apply Lq.run;rfl;rfl;rfl;exact bsB)|(apply PRun.run;rfl;rfl;exact bsB));first|(exact bsE)|(apply op_ocell;rfl;exact bsM;rfl)|(apply op_slen;rfl)|(exact bsO))|refine bsA ?_|(apply Lq.al;rfl;rfl;intro b)|(apply Open.cons;intro b)|refine bsC ?_)
        refine J.drawW 13 [(none,none),(none,none),(none,none),(none,none),(none,none),(none,none),(none,none),(none,none),(none,none),(none,none),(none,none),(none,none),(none,none)] mixed (by kernel_rfl) ?_
        repeat (first|((first|apply PRunW.s|(apply PRunW.run;rfl;rfl;exact bsB)|(apply Lq.s;rfl)|apply PRun.s|(apply Lq.run;rfl;rfl;rfl;exact bsB)|(apply PRun.run;rfl;rfl;exact bsB));first|(exact bsE)|(apply op_ocell;rfl;exact bsM;rfl)|(apply op_slen;rfl)|(apply op_call ht;exact bsD)|(exact bsO))|refine bsA ?_|(apply Lq.al;rfl;rfl;intro b)|(apply Open.cons;intro b)|refine bsC ?_|apply PRunW.nil|(apply PRunW.al;rfl)|(apply PRunW.pass;rfl;rfl)|(apply PRunW.skip;rfl;rfl;exact bsB)|(apply Open.pv;intro b)|apply Open.av|(apply Open.rv;intro A c))
        repeat (first|((first|(apply Lq.s;rfl)|apply PRun.s|(apply Lq.run;rfl;rfl;rfl;exact bsB)|(apply PRun.run;rfl;rfl;exact bsB));first|(exact bsO))|refine bsA ?_|(apply Lq.al;rfl;rfl;intro b)|(apply Open.cons;intro b)|refine bsC ?_)
        (refine J.ret ?_;(repeat (first|refine E.then_ret ?_|refine E.in_ret ?_)))
        exact E.retR3 (Δ':=mdl B { m with cur:=⟨tc,m.cur.streams⟩ } A1 c1 xs1 A2 c2 xs2) (G:=[]) rfl rfl rfl rfl ⟨rfl,_,_,_,_,_,_,hf,rfl⟩ (by rw [List.append_nil,mdl_eq, ← hD];unfold mdC;rw [hm];exact List.Perm.refl _)
      · have e:tickMM m x.n=(m,(tickM m.cur.clock x.n).2):=by unfold tickMM;rw [hm,if_pos rfl,if_neg h0]
        rw [e]
        generalize (tickM m.cur.clock x.n).1=tc at *
        generalize (tickM m.cur.clock x.n).2=te at *
        repeat (first|((first|(apply Lq.s;rfl)|apply PRun.s|(apply Lq.run;rfl;rfl;rfl;exact bsB)|(apply PRun.run;rfl;rfl;exact bsB));first|(exact bsE)|(apply op_ocell;rfl;exact bsM;rfl)|(apply op_slen;rfl)|(exact bsO))|refine bsA ?_|(apply Lq.al;rfl;rfl;intro b)|(apply Open.cons;intro b)|refine bsC ?_)
        refine J.drawW 13 [(none,none),(none,none),(none,none),(none,none),(none,none),(none,none),(none,none),(none,none),(none,none),(none,none),(none,none),(none,none),(none,none)] mixed (by kernel_rfl) ?_
        repeat (first|((first|apply PRunW.s|(apply PRunW.run;rfl;rfl;exact bsB)|(apply Lq.s;rfl)|apply PRun.s|(apply Lq.run;rfl;rfl;rfl;exact bsB)|(apply PRun.run;rfl;rfl;exact bsB));first|(exact bsE)|(apply op_ocell;rfl;exact bsM;rfl)|(apply op_slen;rfl)|(apply op_call ht;exact bsD)|(exact bsO))|refine bsA ?_|(apply Lq.al;rfl;rfl;intro b)|(apply Open.cons;intro b)|refine bsC ?_|apply PRunW.nil|(apply PRunW.al;rfl)|(apply PRunW.pass;rfl;rfl)|(apply PRunW.skip;rfl;rfl;exact bsB)|(apply Open.pv;intro b)|apply Open.av|(apply Open.rv;intro A c))
        repeat (first|((first|(apply Lq.s;rfl)|apply PRun.s|(apply Lq.run;rfl;rfl;rfl;exact bsB)|(apply PRun.run;rfl;rfl;exact bsB));first|(exact bsO))|refine bsA ?_|(apply Lq.al;rfl;rfl;intro b)|(apply Open.cons;intro b)|refine bsC ?_)
        (refine J.ret ?_;(repeat (first|refine E.then_ret ?_|refine E.in_ret ?_)))
        exact E.retR3 (Δ':=mdl B m A1 c1 xs1 A2 c2 xs2) (G:=[]) rfl rfl rfl rfl ⟨rfl,hback ▸ hmd⟩ (by rw [List.append_nil, ← hback];unfold mdC;rw [hm];exact List.Perm.refl _)
  rw [if_neg k11]
  by_cases kk:x.kind=5 ∨ x.kind=7 ∨ x.kind=8 ∨ x.kind=9 ∨ x.kind=10
  · rw [if_pos kk]
    have hh:=mof_fnR (B:=B) (A1:=A1) (c1:=c1) (A2:=A2) (c2:=c2) x full hf hk kk
    generalize ofM m x full=q at *
    rcases kk with k5|k5|k5|k5|k5
    all_goals
      repeat (first|((first|(apply Lq.s;rfl)|apply PRun.s|(apply Lq.run;rfl;rfl;rfl;exact bsB)|(apply PRun.run;rfl;rfl;exact bsB));first|(exact bsE)|(exact bsO))|refine bsA ?_|(apply Lq.al;rfl;rfl;intro b)|(apply Open.cons;intro b)|refine bsC ?_)
      refine Lq.callS (Δ0:=mdl B m A1 c1 xs1 A2 c2 xs2) (Δf:=[]) hh rfl bsD (by rw [List.append_nil, ← hback];exact List.Perm.refl _) ?_
      rintro _ D2 ⟨rfl,hV⟩
      rw [List.append_nil]
      repeat (first|((first|(apply Lq.s;rfl)|apply PRun.s|(apply Lq.run;rfl;rfl;rfl;exact bsB)|(apply PRun.run;rfl;rfl;exact bsB));first|(exact bsO))|refine bsA ?_|(apply Lq.al;rfl;rfl;intro b)|(apply Open.cons;intro b)|refine bsC ?_)
      (refine J.ret ?_;(repeat (first|refine E.then_ret ?_|refine E.in_ret ?_)))
      exact E.retR3 (G:=[]) rfl rfl rfl rfl ⟨rfl,hV⟩ (by rw [List.append_nil])
  · rw [if_neg kk]
    repeat (first|((first|(apply Lq.s;rfl)|apply PRun.s|(apply Lq.run;rfl;rfl;rfl;exact bsB)|(apply PRun.run;rfl;rfl;exact bsB));first|(exact bsE)|(exact bsO))|refine bsA ?_|(apply Lq.al;rfl;rfl;intro b)|(apply Open.cons;intro b)|refine bsC ?_)
    (refine J.ret ?_;(repeat (first|refine E.then_ret ?_|refine E.in_ret ?_)))
    exact E.retR3 (Δ':=mdl B m A1 c1 xs1 A2 c2 xs2) (G:=[]) rfl rfl rfl rfl ⟨rfl,hback ▸ hmd⟩ (by rw [List.append_nil, ← hback];exact List.Perm.refl _)
end Go.Proofs.YtljbbajelkkafaaDoor.L
