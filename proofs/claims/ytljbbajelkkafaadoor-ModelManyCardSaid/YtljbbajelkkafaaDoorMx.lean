/-
  The document's side of a model: names,holds,room,seals,walked.
-/
import Derived.Test.YtljbbajelkkafaaDoorMw
import Derived.Test.YtljbbajelkkafaaDoorDd
import Derived.Test.YtljbbajelkkafaaDoorPoR
import Derived.Test.YtljbbajelkkafaaDoorVd
namespace Go.Proofs.YtljbbajelkkafaaDoor.L
open Go
set_option linter.unusedSectionVars false
variable [Globs] [Has_sha_table] [Has_sha_begin]
set_option linter.unusedVariables false
theorem is_outM {H:IH} {u v:Value} (h:(is v).h H u):u=v:=h
section
set_option linter.unusedVariables false
set_option linter.unusedSimpArgs false
attribute [local irreducible] J Lq E OpP PRun is any agg tup ptr sl PRunW OpE PRunV OpV star
attribute [local irreducible] slt nameE row
theorem ch_intM (c:UInt8):chOk c=((decide ((97:Int)≤(c.toNat:Int)) && decide ((c.toNat:Int)≤122)) || (decide ((48:Int)≤(c.toNat:Int)) && decide ((c.toNat:Int)≤57)) || decide ((c.toNat:Int)=45) || decide ((c.toNat:Int)=46)):=by
  have:=oddR_ch c
  unfold oddR at this
  have h2:=congrArg not this
  simp only [Bool.not_not] at h2
  exact h2.symm
theorem rncheckM_fn (s:Str) (hl:s.length≤maxLen):Fn Tryd.prog 64 [is (str s)] (is (.int .i64 (nameE s))):=by
  unfold maxLen at hl
  cases s with
  | nil =>
    rw [nameE_bad (by rfl)]
    refine Fn.mk' 50 Tryd.func64 rfl rfl rfl rfl fun w0 H0=>?_
    repeat (first|((first|(apply Lq.s;rfl)|apply PRun.s|(apply Lq.run;rfl;rfl;rfl;exact bsB)|(apply PRun.run;rfl;rfl;exact bsB));first|(exact bsO))|refine bsA ?_|(apply Lq.al;rfl;rfl;intro b)|(apply Open.cons;intro b)|(apply J.drawN;exact mixed;kernel_rfl)|refine bsC ?_)
    (refine J.ret ?_;(repeat (first|refine E.then_ret ?_|refine E.in_ret ?_)))
    exact E.ret1 rfl rfl
  | cons c r =>
    have hll:(c::r).length=r.length+1:=rfl
    by_cases hl12:12 < r.length+1
    · rw [nameE_bad (by unfold nameOk;rw [List.length_cons,decide_eq_false (show ¬ r.length+1≤12 by omega)];simp)]
      refine Fn.mk' 50 Tryd.func64 rfl rfl rfl rfl fun w0 H0=>?_
      repeat (first|((first|(apply Lq.s;rfl)|apply PRun.s|(apply Lq.run;rfl;rfl;rfl;exact bsB)|(apply PRun.run;rfl;rfl;exact bsB));first|(exact bsO))|refine bsA ?_|(apply Lq.al;rfl;rfl;intro b)|(apply Open.cons;intro b)|(apply J.drawN;exact mixed;kernel_rfl)|refine bsC ?_)
      (refine J.ret ?_;(repeat (first|refine E.then_ret ?_|refine E.in_ret ?_)))
      exact E.ret1 rfl rfl
    by_cases hc:c.toNat=46
    · rw [nameE_bad (by unfold nameOk;rw [List.head?_cons,UInt8.toNat_inj.1 (show c.toNat=(46:UInt8).toNat from hc)];simp)]
      refine Fn.mk' 50 Tryd.func64 rfl rfl rfl rfl fun w0 H0=>?_
      repeat (first|((first|(apply Lq.s;rfl)|apply PRun.s|(apply Lq.run;rfl;rfl;rfl;exact bsB)|(apply PRun.run;rfl;rfl;exact bsB));first|(apply op_sidx (b:=c);rfl;rfl;decide;rfl)|(exact bsO))|refine bsA ?_|(apply Lq.al;rfl;rfl;intro b)|(apply Open.cons;intro b)|(apply J.drawN;exact mixed;kernel_rfl)|refine bsC ?_)
      (refine J.ret ?_;(repeat (first|refine E.then_ret ?_|refine E.in_ret ?_)))
      exact E.ret1 rfl rfl
    have hn:=nameOk_cons (c:=c) (r:=r) (by omega) hc
    refine Fn.mk' 50 Tryd.func64 rfl rfl rfl rfl fun w0 H0=>?_
    repeat (first|((first|(apply Lq.s;rfl)|apply PRun.s|(apply Lq.run;rfl;rfl;rfl;exact bsB)|(apply PRun.run;rfl;rfl;exact bsB));first|(apply op_sidx (b:=c);rfl;rfl;decide;rfl)|(exact bsO))|refine bsA ?_|(apply Lq.al;rfl;rfl;intro b)|(apply Open.cons;intro b)|(apply J.drawN;exact mixed;kernel_rfl)|refine bsC ?_)
    clear hc
    generalize (c::r)=s at *
    refine J.loop (fun i:Nat=>i≤s.length ∧ ∀ (j:Nat) (a:UInt8),j < i→s[j]?=some a→chOk a=true) (fun i=>[(0,is (str s)),(3,is (.int .i64 (i:Int)))]) (fun _=>[]) (fun i=>s.length - i) 0 ⟨Nat.zero_le _,fun j a hj=>by omega⟩ (Sub.same (by repeat' (first|exact trivial|refine ⟨rfl,?_⟩))) ?_
    rintro i ⟨hi,hp⟩
    by_cases hlt:i < s.length
    · obtain ⟨q,hq⟩ : ∃ q,s[i]?=some q:=⟨_,List.getElem?_eq_getElem hlt⟩
      have hci:=ch_intM q
      have again:chOk q=true → ∀ (j:Nat) (a:UInt8),j < i+1→s[j]?=some a→chOk a=true:=fun ho j a hj ha=>by
        rcases Nat.lt_or_eq_of_le (Nat.le_of_lt_succ hj) with h|rfl
        · exact hp j a h ha
        · rw [hq] at ha;injection ha with ha;subst ha;exact ho
      have bad:chOk q=false→nameE s=130:=fun ho=>nameE_bad (hn.trans (all_f i q hq ho))
      by_cases a:(97:Int)≤(q.toNat:Int)
      · by_cases b:(q.toNat:Int)≤122
        · skip
          have ho:chOk q=true:=by rw [hci];simp;omega
          repeat (first|((first|(apply Lq.s;rfl)|apply PRun.s|(apply Lq.run;rfl;rfl;rfl;exact bsB)|(apply PRun.run;rfl;rfl;exact bsB));first|(apply op_sidx (b:=q);rfl;rfl;exact Int.natCast_nonneg _;(rw [Int.toNat_natCast];exact hq))|(exact bsO))|refine bsA ?_|(apply Lq.al;rfl;rfl;intro b)|(apply Open.cons;intro b)|(apply J.drawN;exact mixed;kernel_rfl)|refine bsC ?_)
          exact E.again (i+1) (by omega) ⟨by omega,again ho⟩ (Sub.same (by repeat' (first|exact trivial|refine ⟨rfl,?_⟩)))
        · have c:(48:Int)≤(q.toNat:Int):=by omega
          have d : ¬ (q.toNat:Int)≤57:=by omega
          have ho:chOk q=false:=by rw [hci];simp;omega
          repeat (first|((first|(apply Lq.s;rfl)|apply PRun.s|(apply Lq.run;rfl;rfl;rfl;exact bsB)|(apply PRun.run;rfl;rfl;exact bsB));first|(apply op_sidx (b:=q);rfl;rfl;exact Int.natCast_nonneg _;(rw [Int.toNat_natCast];exact hq))|(exact bsO))|refine bsA ?_|(apply Lq.al;rfl;rfl;intro b)|(apply Open.cons;intro b)|(apply J.drawN;exact mixed;kernel_rfl)|refine bsC ?_)
          (refine J.ret ?_;(repeat (first|refine E.then_ret ?_|refine E.in_ret ?_)))
          rw [bad ho]
          exact E.ret1 rfl rfl
      · by_cases c:(48:Int)≤(q.toNat:Int)
        · by_cases d:(q.toNat:Int)≤57
          · skip
            have ho:chOk q=true:=by rw [hci];simp;omega
            repeat (first|((first|(apply Lq.s;rfl)|apply PRun.s|(apply Lq.run;rfl;rfl;rfl;exact bsB)|(apply PRun.run;rfl;rfl;exact bsB));first|(apply op_sidx (b:=q);rfl;rfl;exact Int.natCast_nonneg _;(rw [Int.toNat_natCast];exact hq))|(exact bsO))|refine bsA ?_|(apply Lq.al;rfl;rfl;intro b)|(apply Open.cons;intro b)|(apply J.drawN;exact mixed;kernel_rfl)|refine bsC ?_)
            exact E.again (i+1) (by omega) ⟨by omega,again ho⟩ (Sub.same (by repeat' (first|exact trivial|refine ⟨rfl,?_⟩)))
          · skip
            have ho:chOk q=false:=by rw [hci];simp;omega
            repeat (first|((first|(apply Lq.s;rfl)|apply PRun.s|(apply Lq.run;rfl;rfl;rfl;exact bsB)|(apply PRun.run;rfl;rfl;exact bsB));first|(apply op_sidx (b:=q);rfl;rfl;exact Int.natCast_nonneg _;(rw [Int.toNat_natCast];exact hq))|(exact bsO))|refine bsA ?_|(apply Lq.al;rfl;rfl;intro b)|(apply Open.cons;intro b)|(apply J.drawN;exact mixed;kernel_rfl)|refine bsC ?_)
            (refine J.ret ?_;(repeat (first|refine E.then_ret ?_|refine E.in_ret ?_)))
            rw [bad ho]
            exact E.ret1 rfl rfl
        · by_cases e:(q.toNat:Int)=45
          · skip
            have ho:chOk q=true:=by rw [hci];simp;omega
            repeat (first|((first|(apply Lq.s;rfl)|apply PRun.s|(apply Lq.run;rfl;rfl;rfl;exact bsB)|(apply PRun.run;rfl;rfl;exact bsB));first|(apply op_sidx (b:=q);rfl;rfl;exact Int.natCast_nonneg _;(rw [Int.toNat_natCast];exact hq))|(exact bsO))|refine bsA ?_|(apply Lq.al;rfl;rfl;intro b)|(apply Open.cons;intro b)|(apply J.drawN;exact mixed;kernel_rfl)|refine bsC ?_)
            exact E.again (i+1) (by omega) ⟨by omega,again ho⟩ (Sub.same (by repeat' (first|exact trivial|refine ⟨rfl,?_⟩)))
          by_cases f:(q.toNat:Int)=46
          · skip
            have ho:chOk q=true:=by rw [hci];simp;omega
            repeat (first|((first|(apply Lq.s;rfl)|apply PRun.s|(apply Lq.run;rfl;rfl;rfl;exact bsB)|(apply PRun.run;rfl;rfl;exact bsB));first|(apply op_sidx (b:=q);rfl;rfl;exact Int.natCast_nonneg _;(rw [Int.toNat_natCast];exact hq))|(exact bsO))|refine bsA ?_|(apply Lq.al;rfl;rfl;intro b)|(apply Open.cons;intro b)|(apply J.drawN;exact mixed;kernel_rfl)|refine bsC ?_)
            exact E.again (i+1) (by omega) ⟨by omega,again ho⟩ (Sub.same (by repeat' (first|exact trivial|refine ⟨rfl,?_⟩)))
          · skip
            have ho:chOk q=false:=by rw [hci];simp;omega
            repeat (first|((first|(apply Lq.s;rfl)|apply PRun.s|(apply Lq.run;rfl;rfl;rfl;exact bsB)|(apply PRun.run;rfl;rfl;exact bsB));first|(apply op_sidx (b:=q);rfl;rfl;exact Int.natCast_nonneg _;(rw [Int.toNat_natCast];exact hq))|(exact bsO))|refine bsA ?_|(apply Lq.al;rfl;rfl;intro b)|(apply Open.cons;intro b)|(apply J.drawN;exact mixed;kernel_rfl)|refine bsC ?_)
            (refine J.ret ?_;(repeat (first|refine E.then_ret ?_|refine E.in_ret ?_)))
            rw [bad ho]
            exact E.ret1 rfl rfl
    · obtain rfl:i=s.length:=by omega
      repeat (first|((first|(apply Lq.s;rfl)|apply PRun.s|(apply Lq.run;rfl;rfl;rfl;exact bsB)|(apply PRun.run;rfl;rfl;exact bsB));first|(exact bsO))|refine bsA ?_|(apply Lq.al;rfl;rfl;intro b)|(apply Open.cons;intro b)|(apply J.drawN;exact mixed;kernel_rfl)|refine bsC ?_)
      (refine J.ret ?_;(repeat (first|refine E.then_ret ?_|refine E.in_ret ?_)))
      rw [nameE_ok (hn.trans (all_at.2 fun j a ha=>hp j a (List.getElem?_eq_some_iff.1 ha).1 ha))]
      exact E.ret1 rfl rfl
theorem held_fn (l:List Str) (x:Str) (hl:l.length≤1000):Fn Tryd.prog 70 [sl strT.toTy l,is (str x)] (is (.int .i64 (idxM (fun y=>decide (y=x)) l))):=by
  refine Fn.mk' 19 Tryd.func70 rfl rfl rfl rfl fun w0 H0=>?_
  repeat (first|((first|(apply Lq.s;rfl)|apply PRun.s|(apply Lq.run;rfl;rfl;rfl;exact bsB)|(apply PRun.run;rfl;rfl;exact bsB));first|(apply op_len (xs:=l);rfl)|(exact bsO))|refine bsA ?_|(apply Lq.al;rfl;rfl;intro b)|(apply Open.cons;intro b)|(apply J.drawN;exact mixed;kernel_rfl)|refine bsC ?_)
  refine J.loop (fun i:Nat=>i≤l.length ∧ ∀ (j:Nat) (z:Str),j < i→l[j]?=some z→decide (z=x)=false) (fun i=>[(0,sl strT.toTy l),(1,is (str x)),(5,is (.int .i64 (i:Int)))]) (fun _=>[]) (fun i=>l.length - i) 0 ⟨Nat.zero_le _,fun j z hj=>by omega⟩ (Sub.same (by repeat' (first|exact trivial|refine ⟨rfl,?_⟩))) ?_
  rintro i ⟨hi,hp⟩
  by_cases hlt:i < l.length
  · obtain ⟨z,hz⟩ : ∃ z,l[i]?=some z:=⟨_,List.getElem?_eq_getElem hlt⟩
    by_cases hzx:z=x
    · repeat (first|((first|(apply Lq.s;rfl)|apply PRun.s|(apply Lq.run;rfl;rfl;rfl;exact bsB)|(apply PRun.run;rfl;rfl;exact bsB));first|(apply op_len (xs:=l);rfl)|(apply op_iaddr strT.toTy (x:=z);rfl;rfl;exact Int.natCast_nonneg _;(rw [Int.toNat_natCast];exact hz))|(apply op_load strT;rfl)|(apply op_seqT (a:=z) (b:=x);rfl;rfl;exact hzx)|(exact bsO))|refine bsA ?_|(apply Lq.al;rfl;rfl;intro b)|(apply Open.cons;intro b)|(apply J.drawN;exact mixed;kernel_rfl)|refine bsC ?_)
      (refine J.ret ?_;(repeat (first|refine E.then_ret ?_|refine E.in_ret ?_)))
      rw [idxM_t hz (decide_eq_true hzx) hp]
      exact E.ret1 rfl rfl
    · repeat (first|((first|(apply Lq.s;rfl)|apply PRun.s|(apply Lq.run;rfl;rfl;rfl;exact bsB)|(apply PRun.run;rfl;rfl;exact bsB));first|(apply op_len (xs:=l);rfl)|(apply op_iaddr strT.toTy (x:=z);rfl;rfl;exact Int.natCast_nonneg _;(rw [Int.toNat_natCast];exact hz))|(apply op_load strT;rfl)|(apply op_seqF (a:=z) (b:=x);rfl;rfl;exact hzx)|(exact bsO))|refine bsA ?_|(apply Lq.al;rfl;rfl;intro b)|(apply Open.cons;intro b)|(apply J.drawN;exact mixed;kernel_rfl)|refine bsC ?_)
      refine E.again (i+1) (by omega) ⟨by omega,fun j u hj hu=>?_⟩ (Sub.same (by repeat' (first|exact trivial|refine ⟨rfl,?_⟩)))
      rcases Nat.lt_or_eq_of_le (Nat.le_of_lt_succ hj) with h|rfl
      · exact hp j u h hu
      · rw [hz] at hu;injection hu with hu;subst hu;exact decide_eq_false hzx
  · obtain rfl:i=l.length:=by omega
    repeat (first|((first|(apply Lq.s;rfl)|apply PRun.s|(apply Lq.run;rfl;rfl;rfl;exact bsB)|(apply PRun.run;rfl;rfl;exact bsB));first|(apply op_len (xs:=l);rfl)|(exact bsO))|refine bsA ?_|(apply Lq.al;rfl;rfl;intro b)|(apply Open.cons;intro b)|(apply J.drawN;exact mixed;kernel_rfl)|refine bsC ?_)
    (refine J.ret ?_;(repeat (first|refine E.then_ret ?_|refine E.in_ret ?_)))
    rw [idxM_f fun j b hb=>hp j b (List.getElem?_eq_some_iff.1 hb).1 hb]
    exact E.ret1 rfl rfl
end
set_option linter.unusedVariables false
set_option linter.unusedSimpArgs false
attribute [local irreducible] J Lq E OpP PRun is any agg tup ptr sl PRunW OpE
attribute [local irreducible] slt row leafH shaH docR docL OpR dst
theorem droom_fnR {W:Nat} {m:MM} {A1:Option Addr} {n1 c1:Nat} {A2:Option Addr} {n2 c2:Nat} (full:Bool) (hk:m.todo≤200):FnR Tryd.prog 66 [is (.pointer (some ⟨W,0,none⟩)),is (.bool full)] [own W 91 (fsC m A1 n1 c1 A2 n2 c2)]
    (fun ψ Δ=>ψ=is (.int .i64 (errDone m.todo full))∧Δ=[own W 91 (fsC m A1 n1 c1 A2 n2 c2)]):=by
  refine FnR.mk' 11 Tryd.func66 rfl rfl rfl rfl fun w0 H0=>?_
  unfold fsC
  by_cases h2:200≤m.todo
  · rw [show errDone m.todo full=3 by unfold errDone;rw [if_pos h2]]
    repeat (first|((first|(apply Lq.s;rfl)|apply PRun.s|(apply Lq.run;rfl;rfl;rfl;exact bsB)|(apply PRun.run;rfl;rfl;exact bsB));first|(apply op_ocell;rfl;exact bsM;rfl)|(apply op_slen;rfl)|(exact bsO))|refine bsA ?_|(apply Lq.al;rfl;rfl;intro b)|(apply Open.cons;intro b)|refine bsC ?_)
    (refine J.ret ?_;(repeat (first|refine E.then_ret ?_|refine E.in_ret ?_)))
    exact E.retR1 (G:=[]) rfl rfl ⟨rfl,rfl⟩ (List.Perm.refl _)
  cases full with
  | true =>
    rw [show errDone m.todo true=241 by unfold errDone;rw [if_neg h2];rfl]
    repeat (first|((first|(apply Lq.s;rfl)|apply PRun.s|(apply Lq.run;rfl;rfl;rfl;exact bsB)|(apply PRun.run;rfl;rfl;exact bsB));first|(apply op_ocell;rfl;exact bsM;rfl)|(apply op_slen;rfl)|(exact bsO))|refine bsA ?_|(apply Lq.al;rfl;rfl;intro b)|(apply Open.cons;intro b)|refine bsC ?_)
    (refine J.ret ?_;(repeat (first|refine E.then_ret ?_|refine E.in_ret ?_)))
    exact E.retR1 (G:=[]) rfl rfl ⟨rfl,rfl⟩ (List.Perm.refl _)
  | false =>
    rw [show errDone m.todo false=0 by unfold errDone;rw [if_neg h2];rfl]
    repeat (first|((first|(apply Lq.s;rfl)|apply PRun.s|(apply Lq.run;rfl;rfl;rfl;exact bsB)|(apply PRun.run;rfl;rfl;exact bsB));first|(apply op_ocell;rfl;exact bsM;rfl)|(apply op_slen;rfl)|(exact bsO))|refine bsA ?_|(apply Lq.al;rfl;rfl;intro b)|(apply Open.cons;intro b)|refine bsC ?_)
    (refine J.ret ?_;(repeat (first|refine E.then_ret ?_|refine E.in_ret ?_)))
    exact E.retR1 (G:=[]) rfl rfl ⟨rfl,rfl⟩ (List.Perm.refl _)
def sealU (W:Nat) (A2:Option Addr) (n2 c2:Nat) (k:Int) (Δ:List Res):Prop := ∃ φs,own W 91 φs ∈ Δ∧φs[3]?=some (is (.slice A2 n2 c2))∧φs[5]?=some (is (.int .i64 k))
set_option maxHeartbeats 8000000 in
set_option maxRecDepth 100000 in
theorem dseal_fnR {W:Nat} {m:MM} {A1:Option Addr} {c1:Nat} {xs1:List DO} {A2:Option Addr} {c2:Nat} {xs2:List DO} (hf:fitsD m xs1 xs2) (hl:xs2.length≤1000) (hg : ∀ x ∈ xs2,x.1.recs.length≤1000∧x.1.holds.length≤1000) :
    FnR Tryd.prog 41 [is (.pointer (some ⟨W,0,none⟩))] (fsL W m A1 c1 xs1 A2 c2 xs2) (fun ψ Δ=>fsV W (sealM m) Δ):=by
  refine FnR.mk' 20 Tryd.func41 rfl rfl rfl rfl fun w0 H0=>?_
  unfold fsL fsC
  have hU0 : ∀ φs D,φs[3]?=some (is (.slice A2 xs2.length c2))→φs[5]?=some (is (.int .i64 m.cur.clock))→sealU W A2 xs2.length c2 m.cur.clock (own W 91 φs::D):=fun φs D h1 h2=>⟨φs,List.mem_cons_self,h1,h2⟩
  refine J.drawU 21 [false,false,false,false,false,false,false,true,false,false,false,false,false,false,true,false,false,true,false,false,true] 9 (sealU W A2 xs2.length c2 m.cur.clock)
    (fun Δ u=>Δ=own W 91 [is (.bool m.fmt),is (.bool m.mnt),is (.slice A1 xs1.length c1),is (.slice A2 xs2.length c2),is (.int .i64 m.sure.clock),is (.int .i64 m.cur.clock),is (.int .i64 (m.todo:Int))]::(dst A2 c2 xs2++dst A1 c1 xs1)) (fun u=>rfl) (hU0 _ _ rfl rfl) rfl mixed (by kernel_rfl) ?_
  refine PRunU.s rfl (fun Δ h=>op_move rfl) ?_
  refine PRunU.s rfl (fun Δ h=>op_move rfl) ?_
  refine PRunU.s rfl (fun Δ h=>op_move rfl) ?_
  refine PRunU.s rfl (fun Δ h=>op_move rfl) ?_
  refine PRunU.s rfl (fun Δ h=>op_nilCheck rfl) ?_
  refine PRunU.s rfl (fun Δ h=>op_ofaddr rfl (by decide)) ?_
  refine PRunU.s (φ:=is (.slice A2 xs2.length c2)) rfl (fun Δ h=>by
    obtain ⟨φs,hm,h1,h2⟩:=h
    exact op_ocell rfl hm h1) ?_
  refine PRunU.e (φ:=anySl xs2.length) (V1:=fun Δ u => ∃ A' c' ys,ys.map (·.1)=xs2.map (·.1)∧u = .slice A' ys.length c'∧Δ.Perm (own W 91 [is (.bool m.fmt),is (.bool m.mnt),is (.slice A1 xs1.length c1),is (.slice A2 xs2.length c2),is (.int .i64 m.sure.clock),is (.int .i64 m.cur.clock),is (.int .i64 (m.todo:Int))]::(dst A' c' ys++(dst A2 c2 xs2++dst A1 c1 xs1)))) ?c ?u ?_
  case c =>
    refine opU_call (Δ0:=dst A2 c2 xs2) (Δf:=own W 91 [is (.bool m.fmt),is (.bool m.mnt),is (.slice A1 xs1.length c1),is (.slice A2 xs2.length c2),is (.int .i64 m.sure.clock),is (.int .i64 m.cur.clock),is (.int .i64 (m.todo:Int))]::dst A1 c1 xs1) (dcopies_fnR A2 c2 xs2 hl hg) ?_ ?_ ?_
    · exact bsD
    · intro Δ u h
      rw [h]
      exact permP [[_],_,_] [0,1,2] [1,0,2] (by decide)
    · rintro ψ Δ' ⟨A',c',ys,h1,rfl,rfl⟩ H v hv
      have hv:v = .slice A' ys.length c':=is_outM hv
      have hyl:ys.length=xs2.length:=by have:=congrArg List.length h1;rwa [List.length_map,List.length_map] at this
      refine ⟨⟨A',c',by rw [hv,hyl]⟩,A',c',ys,h1,hv,?_⟩
      rw [List.append_assoc]
      exact permP [dst A' c' ys,dst A2 c2 xs2,[_],dst A1 c1 xs1] [0,1,2,3] [2,0,1,3] (by decide)
  case u =>
    rintro Δ u ⟨A',c',ys,_,_,hp⟩
    exact ⟨[is (.bool m.fmt),is (.bool m.mnt),is (.slice A1 xs1.length c1),is (.slice A2 xs2.length c2),is (.int .i64 m.sure.clock),is (.int .i64 m.cur.clock),is (.int .i64 (m.todo:Int))],hp.mem_iff.2 List.mem_cons_self,rfl,rfl⟩
  refine PRunU.s rfl (fun Δ h=>op_move rfl) ?_
  refine PRunU.s rfl (fun Δ h=>op_nilCheck rfl) ?_
  refine PRunU.s rfl (fun Δ h=>op_ofaddr rfl (by decide)) ?_
  refine PRunU.s (φ:=is (.int .i64 m.cur.clock)) rfl (fun Δ h=>by
    obtain ⟨φs,hm,h1,h2⟩:=h
    exact op_ocell rfl hm h2) ?_
  refine PRunU.s rfl (fun Δ h=>op_nilCheck rfl) ?_
  refine PRunU.s rfl (fun Δ h=>op_ofaddr rfl (by decide)) ?_
  refine PRunU.e (φ:=is undef) (V1:=fun Δ u => ∃ A' c' ys,ys.map (·.1)=xs2.map (·.1)∧u = .slice A' ys.length c'∧Δ.Perm (own W 91 [is (.bool m.fmt),is (.bool m.mnt),is u,is (.slice A2 xs2.length c2),is (.int .i64 m.sure.clock),is (.int .i64 m.cur.clock),is (.int .i64 (m.todo:Int))]::(dst A' c' ys++(dst A2 c2 xs2++dst A1 c1 xs1)))) ?c2 ?u2 ?_
  case c2 =>
    refine opU_store (e := 91) (b:=W) (o:=2) (n:=1) rfl ?_
    rintro Δ u ⟨A',c',ys,h1,rfl,hp⟩
    exact ⟨_,_,[is _],hp,rfl,Nat.le_of_ble_eq_true rfl, .inl ⟨rfl,Seg.is rfl⟩,A',c',ys,h1,rfl,List.Perm.refl _⟩
  case u2 =>
    rintro Δ u ⟨A',c',ys,_,_,hp⟩
    exact ⟨[is (.bool m.fmt),is (.bool m.mnt),is u,is (.slice A2 xs2.length c2),is (.int .i64 m.sure.clock),is (.int .i64 m.cur.clock),is (.int .i64 (m.todo:Int))],hp.mem_iff.2 List.mem_cons_self,rfl,rfl⟩
  refine PRunU.s rfl (fun Δ h=>op_nilCheck rfl) ?_
  refine PRunU.s rfl (fun Δ h=>op_ofaddr rfl (by decide)) ?_
  refine PRunU.e (φ:=is undef) (V1:=fun Δ u => ∃ A' c' ys,ys.map (·.1)=xs2.map (·.1)∧u = .slice A' ys.length c'∧Δ.Perm (own W 91 [is (.bool m.fmt),is (.bool m.mnt),is u,is (.slice A2 xs2.length c2),is (.int .i64 m.cur.clock),is (.int .i64 m.cur.clock),is (.int .i64 (m.todo:Int))]::(dst A' c' ys++(dst A2 c2 xs2++dst A1 c1 xs1)))) ?c3 ?u3 ?_
  case c3 =>
    refine opU_store (e := 91) (b:=W) (o:=4) (n:=1) rfl ?_
    rintro Δ u ⟨A',c',ys,h1,rfl,hp⟩
    exact ⟨_,_,[is (.int .i64 m.cur.clock)],hp,rfl,Nat.le_of_ble_eq_true rfl, .inr ⟨_,rfl,Seg.is rfl⟩,A',c',ys,h1,rfl,List.Perm.refl _⟩
  case u3 =>
    rintro Δ u ⟨A',c',ys,_,_,hp⟩
    exact ⟨[is (.bool m.fmt),is (.bool m.mnt),is u,is (.slice A2 xs2.length c2),is (.int .i64 m.cur.clock),is (.int .i64 m.cur.clock),is (.int .i64 (m.todo:Int))],hp.mem_iff.2 List.mem_cons_self,rfl,rfl⟩
  refine PRunU.s rfl (fun Δ h=>op_nilCheck rfl) ?_
  refine PRunU.s rfl (fun Δ h=>op_ofaddr rfl (by decide)) ?_
  refine PRunU.e (φ:=is undef) (V1:=fun Δ u => ∃ A' c' ys,ys.map (·.1)=xs2.map (·.1)∧u = .slice A' ys.length c'∧Δ.Perm (own W 91 [is (.bool m.fmt),is (.bool m.mnt),is u,is (.slice A2 xs2.length c2),is (.int .i64 m.cur.clock),is (.int .i64 m.cur.clock),is (.int .i64 0)]::(dst A' c' ys++(dst A2 c2 xs2++dst A1 c1 xs1)))) ?c4 ?u4 ?_
  case c4 =>
    refine opU_store (e := 91) (b:=W) (o:=6) (n:=1) rfl ?_
    rintro Δ u ⟨A',c',ys,h1,rfl,hp⟩
    exact ⟨_,_,[is (.int .i64 0)],hp,rfl,Nat.le_of_ble_eq_true rfl, .inr ⟨_,rfl,Seg.is rfl⟩,A',c',ys,h1,rfl,List.Perm.refl _⟩
  case u4 =>
    rintro Δ u ⟨A',c',ys,_,_,hp⟩
    exact ⟨[is (.bool m.fmt),is (.bool m.mnt),is u,is (.slice A2 xs2.length c2),is (.int .i64 m.cur.clock),is (.int .i64 m.cur.clock),is (.int .i64 0)],hp.mem_iff.2 List.mem_cons_self,rfl,rfl⟩
  refine PRunU.nil ?_
  rintro Δ' u ⟨A',c',ys,h1,rfl,hp⟩
  apply Lq.nil
  have hfs:fsV W (sealM m) (fsL W (sealM m) A' c' ys A2 c2 xs2):=⟨A',c',ys,A2,c2,xs2,⟨h1.trans hf.2,hf.2⟩,rfl⟩
  refine E.perm hp ?_
  exact E.retR0 .normal (.inr rfl) (Δ':=fsL W (sealM m) A' c' ys A2 c2 xs2) (G:=dst A1 c1 xs1) rfl (fun _=>any_h) hfs (by
    unfold fsL fsC
    rw [List.cons_append,List.append_assoc]
    exact permP [[_],dst A' c' ys,dst A2 c2 xs2,dst A1 c1 xs1] [0,1,2,3] [0,2,1,3] (by decide))
end Go.Proofs.YtljbbajelkkafaaDoor.L
