import Derived.Test.YtljbbajelkkafaaDoorMx
/-
  The document's side of a model: why a step may not be,walked.
-/
namespace Go.Proofs.YtljbbajelkkafaaDoor.L
open Go
set_option linter.unusedSectionVars false
variable [Globs] [Has_sha_table] [Has_sha_begin]
set_option linter.unusedVariables false
theorem fsL_open {W:Nat} {m:MM} {A1:Option Addr} {c1:Nat} {xs1:List DO} {A2:Option Addr} {c2:Nat} {xs2:List DO} {k:Nat} {s:DO} (h:xs2[k]?=some s) :
    (fsL W m A1 c1 xs1 A2 c2 xs2).Perm (own W 91 (fsC m A1 xs1.length c1 A2 xs2.length c2)::row (.slice A2 xs2.length c2) 95 docO.toTy xs2::row (.slice s.2.1.1 s.1.recs.length s.2.1.2) 73 recVT.toTy (s.1.recs.map MRec.v)::row (.slice s.2.2.1 s.1.recs.length s.2.2.2) 37 hashT.toTy (s.1.recs.map MRec.hash)::(docR (xs2.eraseIdx k)++(docL (xs2.eraseIdx k)++dst A1 c1 xs1))):=by
  unfold fsL dst
  have h1:(docR xs2).Perm (docR1 s::docR (xs2.eraseIdx k)):=mapR_pick docR1 h
  have h2:(docL xs2).Perm (docL1 s::docL (xs2.eraseIdx k)):=mapR_pick docL1 h
  refine (List.Perm.append_left [_,_] ((h1.append h2).append_right _)).trans ?_
  rw [List.cons_append,List.append_assoc]
  exact permP [[_],[_],[docR1 s],docR (xs2.eraseIdx k),[docL1 s],_,_] [0,1,2,3,4,5,6] [0,1,2,4,3,5,6] (by decide)
theorem fsL_put {W:Nat} {m:MM} {A1:Option Addr} {c1:Nat} {xs1:List DO} {A2:Option Addr} {c2:Nat} {xs2:List DO} {k:Nat} (s:DO) (h:k < xs2.length) :
    (own W 91 (fsC m A1 xs1.length c1 A2 (xs2.set k s).length c2)::row (.slice A2 (xs2.set k s).length c2) 95 docO.toTy (xs2.set k s)::row (.slice s.2.1.1 s.1.recs.length s.2.1.2) 73 recVT.toTy (s.1.recs.map MRec.v)::row (.slice s.2.2.1 s.1.recs.length s.2.2.2) 37 hashT.toTy (s.1.recs.map MRec.hash)::(docR (xs2.eraseIdx k)++(docL (xs2.eraseIdx k)++dst A1 c1 xs1))).Perm (fsL W m A1 c1 xs1 A2 c2 (xs2.set k s)):=by
  have h1:(docR (xs2.set k s)).Perm (docR1 s::docR (xs2.eraseIdx k)):=mapR_put docR1 s h
  have h2:(docL (xs2.set k s)).Perm (docL1 s::docL (xs2.eraseIdx k)):=mapR_put docL1 s h
  unfold fsL
  refine List.Perm.symm ?_
  rw [show dst A2 c2 (xs2.set k s)=row (.slice A2 (xs2.set k s).length c2) 95 docO.toTy (xs2.set k s)::(docR (xs2.set k s)++docL (xs2.set k s)) from rfl]
  refine (List.Perm.append_left [_,_] ((h1.append h2).append_right _)).trans ?_
  rw [List.cons_append,List.append_assoc]
  exact permP [[_],[_],[docR1 s],docR (xs2.eraseIdx k),[docL1 s],docL (xs2.eraseIdx k),dst A1 c1 xs1] [0,1,2,3,4,5,6] [0,1,2,4,3,5,6] (by decide)
theorem rec_zM (t:Int) (b:Bool):agg (splice (splice (recT.cells (zRec 0 false)) 0 [is (.int .i64 t)]) 36 [is (.bool b)])=recT.val (zRec t b):=rfl
theorem idx_ge {l:List Str} {x:Str}:(x ∈ l→0≤idxM (fun y=>decide (y=x)) l)∧(x ∉ l→idxM (fun y=>decide (y=x)) l = -1):=by
  refine ⟨fun h=>?_,fun h=>idxM_f fun j a ha=>decide_eq_false fun e=>h (e ▸ List.mem_of_getElem? ha)⟩
  have:(l.any fun y=>decide (y=x))=true:=List.any_eq_true.2 ⟨x,h,decide_eq_true rfl⟩
  unfold idxM
  rw [this,if_pos rfl]
  exact Int.natCast_nonneg _
set_option linter.unusedVariables false
set_option linter.unusedSimpArgs false
attribute [local irreducible] J Lq E OpP PRun is any agg tup ptr sl PRunW OpE
attribute [local irreducible] slt row leafH shaH docR docL OpR dst fsL
set_option maxHeartbeats 8000000 in
theorem dwhy_fnR {W:Nat} {m:MM} {A1:Option Addr} {c1:Nat} {xs1:List DO} {nb no c2:Nat} {xs2:List DO} {K:Nat} {ss:MStr} {ra la:Option Addr × Nat} (x:StepS) (hf:fitsD m xs1 xs2) (hk:MOk m) (hs:xs2[K]?=some (ss,ra,la)) (hkk:x.kind=5 ∨ x.kind=7 ∨ x.kind=8 ∨ x.kind=9 ∨ x.kind=10) (hx:x.text.length≤400) :
    FnR Tryd.prog 68 [is (.pointer (some ⟨W,0,none⟩)),stepT.val x,is (.pointer (some ⟨nb,no+K*5,none⟩))] (fsL W m A1 c1 xs1 (some ⟨nb,no,none⟩) c2 xs2)
    (fun ψ Δ=>ψ=is (.int .i64 (errS ss m.cur.clock x))∧Δ=fsL W m A1 c1 xs1 (some ⟨nb,no,none⟩) c2 xs2):=by
  obtain ⟨hl2,hg2⟩:=fitsD_g (clock:=m.cur.clock) hf.2 hk.cur
  obtain ⟨hrl,hhl⟩:ss.recs.length≤1000∧ss.holds.length≤1000:=hg2 _ (List.mem_of_getElem? hs)
  have hso:StrOk ss:=hk.cur.2 ss (List.mem_of_getElem? (map_at hf.2 hs))
  refine FnR.mk' 121 Tryd.func68 rfl rfl rfl rfl fun w0 H0=>?_
  refine J.perm (fsL_open hs) ?_;obtain ⟨D,hD⟩ : ∃ D,D=docR (xs2.eraseIdx K)++(docL (xs2.eraseIdx K)++dst A1 c1 xs1):=⟨_,rfl⟩;rw [← hD];unfold fsC;refine J.open (Δ':=own W 91 _::row _ _ _ _::row _ _ _ _::D) (permP [[_],[_],[_],[_],_] [0,1,2,3,4] [1,0,2,3,4] (by decide)) (by intro h;rw [h] at hs;simp at hs) ?_;intro mb mo cap pre post hR;obtain ⟨hv,hpre,hle,hcap,hroom,_⟩:=hR;injection hv with hA _ hc;cases hA;cases hc
  rcases hkk with hkind|hkind|hkind|hkind|hkind
  · have hES:errS ss m.cur.clock x=if 300 < x.text.length ∨ ss.recs.length=64 then 3 else 0:=by unfold errS;simp [hkind]
    rw [hES]
    by_cases h1:300 < x.text.length
    · rw [if_pos (.inl h1)]
      repeat (first|((first|(apply Lq.s;rfl)|apply PRun.s|(apply Lq.run;rfl;rfl;rfl;exact bsB)|(apply PRun.run;rfl;rfl;exact bsB));first|(exact bsE)|(apply op_ocell (φ:=is (str ss.name));rfl;exact bsM;exact cell_rfld docO.toTy (k:=0) hpre hs (show 0 < 5 by decide))|(apply op_ocell (φ:=is (.int .i64 ss.retain));rfl;exact bsM;exact cell_rfld docO.toTy (k:=1) hpre hs (show 1 < 5 by decide))|(apply op_ocell (φ:=sl strT.toTy ss.holds);rfl;exact bsM;exact cell_rfld docO.toTy (k:=2) hpre hs (show 2 < 5 by decide))|(apply op_ocell (φ:=is (.slice ra.1 ss.recs.length ra.2));rfl;exact bsM;exact cell_rfld docO.toTy (k:=3) hpre hs (show 3 < 5 by decide))|(apply op_ocell (φ:=is (.slice la.1 ss.recs.length la.2));rfl;exact bsM;exact cell_rfld docO.toTy (k:=4) hpre hs (show 4 < 5 by decide))|(apply op_slen;rfl)|(exact bsO))|refine bsA ?_|(apply Lq.al;rfl;rfl;intro b)|(apply Open.cons;intro b)|refine bsC ?_)
      (refine J.ret ?_;(repeat (first|refine E.then_ret ?_|refine E.in_ret ?_)))
      refine E.close docO.toTy xs2 (b:=nb) (o:=no) (cap:=c2) (Δ':=own W 91 _::row _ _ _ _::row _ _ _ _::D) (List.Perm.refl _) hroom hle hcap (take_rowT docO.toTy hpre) ?_
      exact E.retR1 (Δ':=fsL W m A1 c1 xs1 (some ⟨nb,no,none⟩) c2 xs2) (G:=[]) rfl rfl ⟨rfl,rfl⟩ (by rw [List.append_nil,hD];refine List.Perm.trans ?_ (fsL_open hs).symm;unfold fsC;exact List.Perm.swap _ _ _)
    by_cases h2:ss.recs.length=64
    · rw [if_pos (.inr h2)]
      repeat (first|((first|(apply Lq.s;rfl)|apply PRun.s|(apply Lq.run;rfl;rfl;rfl;exact bsB)|(apply PRun.run;rfl;rfl;exact bsB));first|(exact bsE)|(apply op_ocell (φ:=is (str ss.name));rfl;exact bsM;exact cell_rfld docO.toTy (k:=0) hpre hs (show 0 < 5 by decide))|(apply op_ocell (φ:=is (.int .i64 ss.retain));rfl;exact bsM;exact cell_rfld docO.toTy (k:=1) hpre hs (show 1 < 5 by decide))|(apply op_ocell (φ:=sl strT.toTy ss.holds);rfl;exact bsM;exact cell_rfld docO.toTy (k:=2) hpre hs (show 2 < 5 by decide))|(apply op_ocell (φ:=is (.slice ra.1 ss.recs.length ra.2));rfl;exact bsM;exact cell_rfld docO.toTy (k:=3) hpre hs (show 3 < 5 by decide))|(apply op_ocell (φ:=is (.slice la.1 ss.recs.length la.2));rfl;exact bsM;exact cell_rfld docO.toTy (k:=4) hpre hs (show 4 < 5 by decide))|(apply op_slen;rfl)|(exact bsO))|refine bsA ?_|(apply Lq.al;rfl;rfl;intro b)|(apply Open.cons;intro b)|refine bsC ?_)
      (refine J.ret ?_;(repeat (first|refine E.then_ret ?_|refine E.in_ret ?_)))
      refine E.close docO.toTy xs2 (b:=nb) (o:=no) (cap:=c2) (Δ':=own W 91 _::row _ _ _ _::row _ _ _ _::D) (List.Perm.refl _) hroom hle hcap (take_rowT docO.toTy hpre) ?_
      exact E.retR1 (Δ':=fsL W m A1 c1 xs1 (some ⟨nb,no,none⟩) c2 xs2) (G:=[]) rfl rfl ⟨rfl,rfl⟩ (by rw [List.append_nil,hD];refine List.Perm.trans ?_ (fsL_open hs).symm;unfold fsC;exact List.Perm.swap _ _ _)
    rw [if_neg (by omega)]
    repeat (first|((first|(apply Lq.s;rfl)|apply PRun.s|(apply Lq.run;rfl;rfl;rfl;exact bsB)|(apply PRun.run;rfl;rfl;exact bsB));first|(exact bsE)|(apply op_ocell (φ:=is (str ss.name));rfl;exact bsM;exact cell_rfld docO.toTy (k:=0) hpre hs (show 0 < 5 by decide))|(apply op_ocell (φ:=is (.int .i64 ss.retain));rfl;exact bsM;exact cell_rfld docO.toTy (k:=1) hpre hs (show 1 < 5 by decide))|(apply op_ocell (φ:=sl strT.toTy ss.holds);rfl;exact bsM;exact cell_rfld docO.toTy (k:=2) hpre hs (show 2 < 5 by decide))|(apply op_ocell (φ:=is (.slice ra.1 ss.recs.length ra.2));rfl;exact bsM;exact cell_rfld docO.toTy (k:=3) hpre hs (show 3 < 5 by decide))|(apply op_ocell (φ:=is (.slice la.1 ss.recs.length la.2));rfl;exact bsM;exact cell_rfld docO.toTy (k:=4) hpre hs (show 4 < 5 by decide))|(apply op_slen;rfl)|(exact bsO))|refine bsA ?_|(apply Lq.al;rfl;rfl;intro b)|(apply Open.cons;intro b)|refine bsC ?_)
    (refine J.ret ?_;(repeat (first|refine E.then_ret ?_|refine E.in_ret ?_)))
    refine E.close docO.toTy xs2 (b:=nb) (o:=no) (cap:=c2) (Δ':=own W 91 _::row _ _ _ _::row _ _ _ _::D) (List.Perm.refl _) hroom hle hcap (take_rowT docO.toTy hpre) ?_
    exact E.retR1 (Δ':=fsL W m A1 c1 xs1 (some ⟨nb,no,none⟩) c2 xs2) (G:=[]) rfl rfl ⟨rfl,rfl⟩ (by rw [List.append_nil,hD];refine List.Perm.trans ?_ (fsL_open hs).symm;unfold fsC;exact List.Perm.swap _ _ _)
  · have hES:errS ss m.cur.clock x=longerM ss.retain x.n:=by unfold errS;simp [hkind]
    rw [hES]
    have hlf:=rlonger_fn ss.retain x.n
    generalize longerM ss.retain x.n=le at *
    repeat (first|((first|(apply Lq.s;rfl)|apply PRun.s|(apply Lq.run;rfl;rfl;rfl;exact bsB)|(apply PRun.run;rfl;rfl;exact bsB));first|(exact bsE)|(apply op_ocell (φ:=is (str ss.name));rfl;exact bsM;exact cell_rfld docO.toTy (k:=0) hpre hs (show 0 < 5 by decide))|(apply op_ocell (φ:=is (.int .i64 ss.retain));rfl;exact bsM;exact cell_rfld docO.toTy (k:=1) hpre hs (show 1 < 5 by decide))|(apply op_ocell (φ:=sl strT.toTy ss.holds);rfl;exact bsM;exact cell_rfld docO.toTy (k:=2) hpre hs (show 2 < 5 by decide))|(apply op_ocell (φ:=is (.slice ra.1 ss.recs.length ra.2));rfl;exact bsM;exact cell_rfld docO.toTy (k:=3) hpre hs (show 3 < 5 by decide))|(apply op_ocell (φ:=is (.slice la.1 ss.recs.length la.2));rfl;exact bsM;exact cell_rfld docO.toTy (k:=4) hpre hs (show 4 < 5 by decide))|(apply op_slen;rfl)|(apply op_call hlf;exact bsD)|(exact bsO))|refine bsA ?_|(apply Lq.al;rfl;rfl;intro b)|(apply Open.cons;intro b)|(apply J.drawN;exact mixed;kernel_rfl)|refine bsC ?_)
    (refine J.ret ?_;(repeat (first|refine E.then_ret ?_|refine E.in_ret ?_)))
    refine E.close docO.toTy xs2 (b:=nb) (o:=no) (cap:=c2) (Δ':=own W 91 _::row _ _ _ _::row _ _ _ _::D) (List.Perm.refl _) hroom hle hcap (take_rowT docO.toTy hpre) ?_
    exact E.retR1 (Δ':=fsL W m A1 c1 xs1 (some ⟨nb,no,none⟩) c2 xs2) (G:=[]) rfl rfl ⟨rfl,rfl⟩ (by rw [List.append_nil,hD];refine List.Perm.trans ?_ (fsL_open hs).symm;unfold fsC;exact List.Perm.swap _ _ _)
  · have hES:errS ss m.cur.clock x=if nameOk x.text then (if x.text ∈ ss.holds then 142 else if ss.holds.length=4 then 3 else 0) else 130:=by unfold errS;simp [hkind]
    rw [hES]
    have hhf:=held_fn ss.holds x.text hhl
    have hnc:=rncheckM_fn x.text (by unfold maxLen;omega)
    cases hn:nameOk x.text with
    | false =>
      rw [nameE_bad hn] at hnc
      rw [if_neg (by decide)]
      repeat (first|((first|(apply Lq.s;rfl)|apply PRun.s|(apply Lq.run;rfl;rfl;rfl;exact bsB)|(apply PRun.run;rfl;rfl;exact bsB));first|(exact bsE)|(apply op_ocell (φ:=is (str ss.name));rfl;exact bsM;exact cell_rfld docO.toTy (k:=0) hpre hs (show 0 < 5 by decide))|(apply op_ocell (φ:=is (.int .i64 ss.retain));rfl;exact bsM;exact cell_rfld docO.toTy (k:=1) hpre hs (show 1 < 5 by decide))|(apply op_ocell (φ:=sl strT.toTy ss.holds);rfl;exact bsM;exact cell_rfld docO.toTy (k:=2) hpre hs (show 2 < 5 by decide))|(apply op_ocell (φ:=is (.slice ra.1 ss.recs.length ra.2));rfl;exact bsM;exact cell_rfld docO.toTy (k:=3) hpre hs (show 3 < 5 by decide))|(apply op_ocell (φ:=is (.slice la.1 ss.recs.length la.2));rfl;exact bsM;exact cell_rfld docO.toTy (k:=4) hpre hs (show 4 < 5 by decide))|(apply op_slen;rfl)|(apply op_len (xs:=ss.holds);rfl)|(apply op_call hhf;exact bsD)|(apply op_call hnc;exact bsD)|(exact bsO))|refine bsA ?_|(apply Lq.al;rfl;rfl;intro b)|(apply Open.cons;intro b)|(apply J.drawN;exact mixed;kernel_rfl)|refine bsC ?_)
      (refine J.ret ?_;(repeat (first|refine E.then_ret ?_|refine E.in_ret ?_)))
      refine E.close docO.toTy xs2 (b:=nb) (o:=no) (cap:=c2) (Δ':=own W 91 _::row _ _ _ _::row _ _ _ _::D) (List.Perm.refl _) hroom hle hcap (take_rowT docO.toTy hpre) ?_
      exact E.retR1 (Δ':=fsL W m A1 c1 xs1 (some ⟨nb,no,none⟩) c2 xs2) (G:=[]) rfl rfl ⟨rfl,rfl⟩ (by rw [List.append_nil,hD];refine List.Perm.trans ?_ (fsL_open hs).symm;unfold fsC;exact List.Perm.swap _ _ _)
    | true =>
      rw [nameE_ok hn] at hnc
      rw [if_pos rfl]
      by_cases hin:x.text ∈ ss.holds
      · rw [if_pos hin]
        have:=(idx_ge (l:=ss.holds) (x:=x.text)).1 hin
        generalize idxM (fun y=>decide (y=x.text)) ss.holds=q at *
        repeat (first|((first|(apply Lq.s;rfl)|apply PRun.s|(apply Lq.run;rfl;rfl;rfl;exact bsB)|(apply PRun.run;rfl;rfl;exact bsB));first|(exact bsE)|(apply op_ocell (φ:=is (str ss.name));rfl;exact bsM;exact cell_rfld docO.toTy (k:=0) hpre hs (show 0 < 5 by decide))|(apply op_ocell (φ:=is (.int .i64 ss.retain));rfl;exact bsM;exact cell_rfld docO.toTy (k:=1) hpre hs (show 1 < 5 by decide))|(apply op_ocell (φ:=sl strT.toTy ss.holds);rfl;exact bsM;exact cell_rfld docO.toTy (k:=2) hpre hs (show 2 < 5 by decide))|(apply op_ocell (φ:=is (.slice ra.1 ss.recs.length ra.2));rfl;exact bsM;exact cell_rfld docO.toTy (k:=3) hpre hs (show 3 < 5 by decide))|(apply op_ocell (φ:=is (.slice la.1 ss.recs.length la.2));rfl;exact bsM;exact cell_rfld docO.toTy (k:=4) hpre hs (show 4 < 5 by decide))|(apply op_slen;rfl)|(apply op_len (xs:=ss.holds);rfl)|(apply op_call hhf;exact bsD)|(apply op_call hnc;exact bsD)|(exact bsO))|refine bsA ?_|(apply Lq.al;rfl;rfl;intro b)|(apply Open.cons;intro b)|(apply J.drawN;exact mixed;kernel_rfl)|refine bsC ?_)
        (refine J.ret ?_;(repeat (first|refine E.then_ret ?_|refine E.in_ret ?_)))
        refine E.close docO.toTy xs2 (b:=nb) (o:=no) (cap:=c2) (Δ':=own W 91 _::row _ _ _ _::row _ _ _ _::D) (List.Perm.refl _) hroom hle hcap (take_rowT docO.toTy hpre) ?_
        exact E.retR1 (Δ':=fsL W m A1 c1 xs1 (some ⟨nb,no,none⟩) c2 xs2) (G:=[]) rfl rfl ⟨rfl,rfl⟩ (by rw [List.append_nil,hD];refine List.Perm.trans ?_ (fsL_open hs).symm;unfold fsC;exact List.Perm.swap _ _ _)
      · rw [if_neg hin]
        have:=(idx_ge (l:=ss.holds) (x:=x.text)).2 hin
        generalize idxM (fun y=>decide (y=x.text)) ss.holds=q at *
        by_cases h4:ss.holds.length=4
        · rw [if_pos h4]
          repeat (first|((first|(apply Lq.s;rfl)|apply PRun.s|(apply Lq.run;rfl;rfl;rfl;exact bsB)|(apply PRun.run;rfl;rfl;exact bsB));first|(exact bsE)|(apply op_ocell (φ:=is (str ss.name));rfl;exact bsM;exact cell_rfld docO.toTy (k:=0) hpre hs (show 0 < 5 by decide))|(apply op_ocell (φ:=is (.int .i64 ss.retain));rfl;exact bsM;exact cell_rfld docO.toTy (k:=1) hpre hs (show 1 < 5 by decide))|(apply op_ocell (φ:=sl strT.toTy ss.holds);rfl;exact bsM;exact cell_rfld docO.toTy (k:=2) hpre hs (show 2 < 5 by decide))|(apply op_ocell (φ:=is (.slice ra.1 ss.recs.length ra.2));rfl;exact bsM;exact cell_rfld docO.toTy (k:=3) hpre hs (show 3 < 5 by decide))|(apply op_ocell (φ:=is (.slice la.1 ss.recs.length la.2));rfl;exact bsM;exact cell_rfld docO.toTy (k:=4) hpre hs (show 4 < 5 by decide))|(apply op_slen;rfl)|(apply op_len (xs:=ss.holds);rfl)|(apply op_call hhf;exact bsD)|(apply op_call hnc;exact bsD)|(exact bsO))|refine bsA ?_|(apply Lq.al;rfl;rfl;intro b)|(apply Open.cons;intro b)|(apply J.drawN;exact mixed;kernel_rfl)|refine bsC ?_)
          (refine J.ret ?_;(repeat (first|refine E.then_ret ?_|refine E.in_ret ?_)))
          refine E.close docO.toTy xs2 (b:=nb) (o:=no) (cap:=c2) (Δ':=own W 91 _::row _ _ _ _::row _ _ _ _::D) (List.Perm.refl _) hroom hle hcap (take_rowT docO.toTy hpre) ?_
          exact E.retR1 (Δ':=fsL W m A1 c1 xs1 (some ⟨nb,no,none⟩) c2 xs2) (G:=[]) rfl rfl ⟨rfl,rfl⟩ (by rw [List.append_nil,hD];refine List.Perm.trans ?_ (fsL_open hs).symm;unfold fsC;exact List.Perm.swap _ _ _)
        · rw [if_neg h4]
          repeat (first|((first|(apply Lq.s;rfl)|apply PRun.s|(apply Lq.run;rfl;rfl;rfl;exact bsB)|(apply PRun.run;rfl;rfl;exact bsB));first|(exact bsE)|(apply op_ocell (φ:=is (str ss.name));rfl;exact bsM;exact cell_rfld docO.toTy (k:=0) hpre hs (show 0 < 5 by decide))|(apply op_ocell (φ:=is (.int .i64 ss.retain));rfl;exact bsM;exact cell_rfld docO.toTy (k:=1) hpre hs (show 1 < 5 by decide))|(apply op_ocell (φ:=sl strT.toTy ss.holds);rfl;exact bsM;exact cell_rfld docO.toTy (k:=2) hpre hs (show 2 < 5 by decide))|(apply op_ocell (φ:=is (.slice ra.1 ss.recs.length ra.2));rfl;exact bsM;exact cell_rfld docO.toTy (k:=3) hpre hs (show 3 < 5 by decide))|(apply op_ocell (φ:=is (.slice la.1 ss.recs.length la.2));rfl;exact bsM;exact cell_rfld docO.toTy (k:=4) hpre hs (show 4 < 5 by decide))|(apply op_slen;rfl)|(apply op_len (xs:=ss.holds);rfl)|(apply op_call hhf;exact bsD)|(apply op_call hnc;exact bsD)|(exact bsO))|refine bsA ?_|(apply Lq.al;rfl;rfl;intro b)|(apply Open.cons;intro b)|(apply J.drawN;exact mixed;kernel_rfl)|refine bsC ?_)
          (refine J.ret ?_;(repeat (first|refine E.then_ret ?_|refine E.in_ret ?_)))
          refine E.close docO.toTy xs2 (b:=nb) (o:=no) (cap:=c2) (Δ':=own W 91 _::row _ _ _ _::row _ _ _ _::D) (List.Perm.refl _) hroom hle hcap (take_rowT docO.toTy hpre) ?_
          exact E.retR1 (Δ':=fsL W m A1 c1 xs1 (some ⟨nb,no,none⟩) c2 xs2) (G:=[]) rfl rfl ⟨rfl,rfl⟩ (by rw [List.append_nil,hD];refine List.Perm.trans ?_ (fsL_open hs).symm;unfold fsC;exact List.Perm.swap _ _ _)
  · have hES:errS ss m.cur.clock x=if x.text ∈ ss.holds then 0 else 143:=by unfold errS;simp [hkind]
    rw [hES]
    have hhf:=held_fn ss.holds x.text hhl
    by_cases hin:x.text ∈ ss.holds
    · rw [if_pos hin]
      have:=(idx_ge (l:=ss.holds) (x:=x.text)).1 hin
      generalize idxM (fun y=>decide (y=x.text)) ss.holds=q at *
      repeat (first|((first|(apply Lq.s;rfl)|apply PRun.s|(apply Lq.run;rfl;rfl;rfl;exact bsB)|(apply PRun.run;rfl;rfl;exact bsB));first|(exact bsE)|(apply op_ocell (φ:=is (str ss.name));rfl;exact bsM;exact cell_rfld docO.toTy (k:=0) hpre hs (show 0 < 5 by decide))|(apply op_ocell (φ:=is (.int .i64 ss.retain));rfl;exact bsM;exact cell_rfld docO.toTy (k:=1) hpre hs (show 1 < 5 by decide))|(apply op_ocell (φ:=sl strT.toTy ss.holds);rfl;exact bsM;exact cell_rfld docO.toTy (k:=2) hpre hs (show 2 < 5 by decide))|(apply op_ocell (φ:=is (.slice ra.1 ss.recs.length ra.2));rfl;exact bsM;exact cell_rfld docO.toTy (k:=3) hpre hs (show 3 < 5 by decide))|(apply op_ocell (φ:=is (.slice la.1 ss.recs.length la.2));rfl;exact bsM;exact cell_rfld docO.toTy (k:=4) hpre hs (show 4 < 5 by decide))|(apply op_slen;rfl)|(apply op_call hhf;exact bsD)|(exact bsO))|refine bsA ?_|(apply Lq.al;rfl;rfl;intro b)|(apply Open.cons;intro b)|(apply J.drawN;exact mixed;kernel_rfl)|refine bsC ?_)
      (refine J.ret ?_;(repeat (first|refine E.then_ret ?_|refine E.in_ret ?_)))
      refine E.close docO.toTy xs2 (b:=nb) (o:=no) (cap:=c2) (Δ':=own W 91 _::row _ _ _ _::row _ _ _ _::D) (List.Perm.refl _) hroom hle hcap (take_rowT docO.toTy hpre) ?_
      exact E.retR1 (Δ':=fsL W m A1 c1 xs1 (some ⟨nb,no,none⟩) c2 xs2) (G:=[]) rfl rfl ⟨rfl,rfl⟩ (by rw [List.append_nil,hD];refine List.Perm.trans ?_ (fsL_open hs).symm;unfold fsC;exact List.Perm.swap _ _ _)
    · rw [if_neg hin]
      have:=(idx_ge (l:=ss.holds) (x:=x.text)).2 hin
      generalize idxM (fun y=>decide (y=x.text)) ss.holds=q at *
      repeat (first|((first|(apply Lq.s;rfl)|apply PRun.s|(apply Lq.run;rfl;rfl;rfl;exact bsB)|(apply PRun.run;rfl;rfl;exact bsB));first|(exact bsE)|(apply op_ocell (φ:=is (str ss.name));rfl;exact bsM;exact cell_rfld docO.toTy (k:=0) hpre hs (show 0 < 5 by decide))|(apply op_ocell (φ:=is (.int .i64 ss.retain));rfl;exact bsM;exact cell_rfld docO.toTy (k:=1) hpre hs (show 1 < 5 by decide))|(apply op_ocell (φ:=sl strT.toTy ss.holds);rfl;exact bsM;exact cell_rfld docO.toTy (k:=2) hpre hs (show 2 < 5 by decide))|(apply op_ocell (φ:=is (.slice ra.1 ss.recs.length ra.2));rfl;exact bsM;exact cell_rfld docO.toTy (k:=3) hpre hs (show 3 < 5 by decide))|(apply op_ocell (φ:=is (.slice la.1 ss.recs.length la.2));rfl;exact bsM;exact cell_rfld docO.toTy (k:=4) hpre hs (show 4 < 5 by decide))|(apply op_slen;rfl)|(apply op_call hhf;exact bsD)|(exact bsO))|refine bsA ?_|(apply Lq.al;rfl;rfl;intro b)|(apply Open.cons;intro b)|(apply J.drawN;exact mixed;kernel_rfl)|refine bsC ?_)
      (refine J.ret ?_;(repeat (first|refine E.then_ret ?_|refine E.in_ret ?_)))
      refine E.close docO.toTy xs2 (b:=nb) (o:=no) (cap:=c2) (Δ':=own W 91 _::row _ _ _ _::row _ _ _ _::D) (List.Perm.refl _) hroom hle hcap (take_rowT docO.toTy hpre) ?_
      exact E.retR1 (Δ':=fsL W m A1 c1 xs1 (some ⟨nb,no,none⟩) c2 xs2) (G:=[]) rfl rfl ⟨rfl,rfl⟩ (by rw [List.append_nil,hD];refine List.Perm.trans ?_ (fsL_open hs).symm;unfold fsC;exact List.Perm.swap _ _ _)
  · have hES:errS ss m.cur.clock x=errShredM ss m.cur.clock x.n:=by unfold errS;simp [hkind]
    rw [hES]
    by_cases hi0:x.n < 0
    · rw [errShred_range (.inl hi0)]
      repeat (first|((first|(apply Lq.s;rfl)|apply PRun.s|(apply Lq.run;rfl;rfl;rfl;exact bsB)|(apply PRun.run;rfl;rfl;exact bsB));first|(exact bsE)|(apply op_ocell (φ:=is (str ss.name));rfl;exact bsM;exact cell_rfld docO.toTy (k:=0) hpre hs (show 0 < 5 by decide))|(apply op_ocell (φ:=is (.int .i64 ss.retain));rfl;exact bsM;exact cell_rfld docO.toTy (k:=1) hpre hs (show 1 < 5 by decide))|(apply op_ocell (φ:=sl strT.toTy ss.holds);rfl;exact bsM;exact cell_rfld docO.toTy (k:=2) hpre hs (show 2 < 5 by decide))|(apply op_ocell (φ:=is (.slice ra.1 ss.recs.length ra.2));rfl;exact bsM;exact cell_rfld docO.toTy (k:=3) hpre hs (show 3 < 5 by decide))|(apply op_ocell (φ:=is (.slice la.1 ss.recs.length la.2));rfl;exact bsM;exact cell_rfld docO.toTy (k:=4) hpre hs (show 4 < 5 by decide))|(apply op_slen;rfl)|(exact bsO))|refine bsA ?_|(apply Lq.al;rfl;rfl;intro b)|(apply Open.cons;intro b)|(apply J.drawN;exact mixed;kernel_rfl)|refine bsC ?_)
      (refine J.ret ?_;(repeat (first|refine E.then_ret ?_|refine E.in_ret ?_)))
      refine E.close docO.toTy xs2 (b:=nb) (o:=no) (cap:=c2) (Δ':=own W 91 _::row _ _ _ _::row _ _ _ _::D) (List.Perm.refl _) hroom hle hcap (take_rowT docO.toTy hpre) ?_
      exact E.retR1 (Δ':=fsL W m A1 c1 xs1 (some ⟨nb,no,none⟩) c2 xs2) (G:=[]) rfl rfl ⟨rfl,rfl⟩ (by rw [List.append_nil,hD];refine List.Perm.trans ?_ (fsL_open hs).symm;unfold fsC;exact List.Perm.swap _ _ _)
    by_cases hi1:(ss.recs.length:Int)≤x.n
    · rw [errShred_range (.inr hi1)]
      repeat (first|((first|(apply Lq.s;rfl)|apply PRun.s|(apply Lq.run;rfl;rfl;rfl;exact bsB)|(apply PRun.run;rfl;rfl;exact bsB));first|(exact bsE)|(apply op_ocell (φ:=is (str ss.name));rfl;exact bsM;exact cell_rfld docO.toTy (k:=0) hpre hs (show 0 < 5 by decide))|(apply op_ocell (φ:=is (.int .i64 ss.retain));rfl;exact bsM;exact cell_rfld docO.toTy (k:=1) hpre hs (show 1 < 5 by decide))|(apply op_ocell (φ:=sl strT.toTy ss.holds);rfl;exact bsM;exact cell_rfld docO.toTy (k:=2) hpre hs (show 2 < 5 by decide))|(apply op_ocell (φ:=is (.slice ra.1 ss.recs.length ra.2));rfl;exact bsM;exact cell_rfld docO.toTy (k:=3) hpre hs (show 3 < 5 by decide))|(apply op_ocell (φ:=is (.slice la.1 ss.recs.length la.2));rfl;exact bsM;exact cell_rfld docO.toTy (k:=4) hpre hs (show 4 < 5 by decide))|(apply op_slen;rfl)|(exact bsO))|refine bsA ?_|(apply Lq.al;rfl;rfl;intro b)|(apply Open.cons;intro b)|(apply J.drawN;exact mixed;kernel_rfl)|refine bsC ?_)
      (refine J.ret ?_;(repeat (first|refine E.then_ret ?_|refine E.in_ret ?_)))
      refine E.close docO.toTy xs2 (b:=nb) (o:=no) (cap:=c2) (Δ':=own W 91 _::row _ _ _ _::row _ _ _ _::D) (List.Perm.refl _) hroom hle hcap (take_rowT docO.toTy hpre) ?_
      exact E.retR1 (Δ':=fsL W m A1 c1 xs1 (some ⟨nb,no,none⟩) c2 xs2) (G:=[]) rfl rfl ⟨rfl,rfl⟩ (by rw [List.append_nil,hD];refine List.Perm.trans ?_ (fsL_open hs).symm;unfold fsC;exact List.Perm.swap _ _ _)
    obtain ⟨k,hxn⟩ : ∃ k:Nat,x.n=k:=⟨x.n.toNat,by omega⟩
    rw [hxn] at hES hi0 hi1 ⊢
    obtain ⟨r,hr⟩ : ∃ r,ss.recs[k]?=some r:=⟨_,List.getElem?_eq_getElem (by omega)⟩
    rw [errShred_in hr]
    have hrv:(ss.recs.map MRec.v)[k]?=some r.v:=by rw [List.getElem?_map,hr];rfl
    have hmf:=rmay_fn (zRec r.time r.shred) ss.retain ss.holds.length m.cur.clock
    generalize mayM (zRec r.time r.shred) ss.retain ss.holds.length m.cur.clock=me at *
    obtain ⟨ra1,ra2⟩:=ra
    refine J.open (Δ':=own nb _ _::own W _ _::row (.slice la.1 ss.recs.length la.2) _ _ _::D) (permP [[_],[_],[_],_] [0,1,2,3] [2,0,1,3] (by decide)) (by intro h;rw [h] at hrv;simp at hrv) ?_
    intro ob oo ocap pre2 post2 hR2
    obtain ⟨hv2,hpre2,hle2,hcap2,hroom2,_⟩:=hR2
    injection hv2 with hA2 _ hc2
    cases hA2;cases hc2
    repeat (first|((first|(apply Lq.s;rfl)|apply PRun.s|(apply Lq.run;rfl;rfl;rfl;exact bsB)|(apply PRun.run;rfl;rfl;exact bsB));first|(refine op_load (intT .i64) (x:=((k:Nat):Int)) ?_;(rw [← hxn];rfl))|(exact bsE)|(apply op_ocell (φ:=is (.int .i64 ss.retain));rfl;exact bsM;exact cell_rfld docO.toTy (k:=1) hpre hs (show 1 < 5 by decide))|(apply op_ocell (φ:=sl strT.toTy ss.holds);rfl;exact bsM;exact cell_rfld docO.toTy (k:=2) hpre hs (show 2 < 5 by decide))|(apply op_ocell (φ:=is (.slice (some ⟨ob,oo,none⟩) ss.recs.length ra2));rfl;exact bsM;exact cell_rfld docO.toTy (k:=3) hpre hs (show 3 < 5 by decide))|(apply op_slen;rfl)|(exact bsO))|refine bsA ?_|(apply Lq.al;rfl;rfl;intro b)|(apply Open.cons;intro b)|refine bsC ?_)
    refine J.drawW 15 [(none,none),(none,none),(none,none),(none,none),(none,none),(none,none),(none,none),(none,none),(none,none),(none,none),(none,none),(none,none),(none,none),(none,some 9),(some 9,some 9)] mixed (by kernel_rfl) ?_
    repeat (first|((first|apply PRunW.s|(apply PRunW.run;rfl;rfl;exact bsB)|(apply Lq.s;rfl)|apply PRun.s|(apply Lq.run;rfl;rfl;rfl;exact bsB)|(apply PRun.run;rfl;rfl;exact bsB));first|(refine op_load (intT .i64) (x:=((k:Nat):Int)) ?_;(rw [← hxn];rfl))|(exact bsE)|(apply op_ocell (φ:=is (.int .i64 ss.retain));rfl;exact bsM;exact cell_rfld docO.toTy (k:=1) hpre hs (show 1 < 5 by decide))|(apply op_ocell (φ:=sl strT.toTy ss.holds);rfl;exact bsM;exact cell_rfld docO.toTy (k:=2) hpre hs (show 2 < 5 by decide))|(apply op_ocell (φ:=is (.slice (some ⟨ob,oo,none⟩) ss.recs.length ra2));rfl;exact bsM;exact cell_rfld docO.toTy (k:=3) hpre hs (show 3 < 5 by decide))|(apply op_siaddr;rfl;rfl;omega;omega)|(apply op_ocell (φ:=is (.int .i64 r.time));rfl;exact bsM;(rw [Int.toNat_natCast];exact cell_rfld recVT.toTy (k:=0) hpre2 hrv (show 0 < 3 by decide)))|(apply op_ocell (φ:=is (.bool r.shred));rfl;exact bsM;(rw [Int.toNat_natCast];exact cell_rfld recVT.toTy (k:=2) hpre2 hrv (show 2 < 3 by decide)))|(exact bsO))|refine bsA ?_|(apply Lq.al;rfl;rfl;intro b)|(apply Open.cons;intro b)|refine bsC ?_|apply PRunW.nil|(apply PRunW.al;rfl)|(apply PRunW.pass;rfl;rfl)|(apply PRunW.skip;rfl;rfl;exact bsB)|(apply Open.pv;intro b)|apply Open.av|(apply Open.rv;intro A c))
    (apply PRunW.st (φs':=recT.cells (zRec r.time r.shred));rfl;rfl;exact Seg.agg;rfl;exact Nat.le_refl 37;rfl)
    apply PRunW.nil
    (apply Open.pv;intro zb)
    apply Open.nil
    repeat (first|((first|(apply Lq.s;rfl)|apply PRun.s|(apply Lq.run;rfl;rfl;rfl;exact bsB)|(apply PRun.run;rfl;rfl;exact bsB));first|(apply op_ocell (φ:=is (.int .i64 ss.retain));rfl;exact bsM;exact cell_rfld docO.toTy (k:=1) hpre hs (show 1 < 5 by decide))|(apply op_ocell (φ:=sl strT.toTy ss.holds);rfl;exact bsM;exact cell_rfld docO.toTy (k:=2) hpre hs (show 2 < 5 by decide))|(apply op_ocell (φ:=is (.slice (some ⟨ob,oo,none⟩) ss.recs.length ra2));rfl;exact bsM;exact cell_rfld docO.toTy (k:=3) hpre hs (show 3 < 5 by decide))|(apply op_oload recT (x:=zRec r.time r.shred);rfl;exact bsM;rfl)|(apply op_len (xs:=ss.holds);rfl)|(apply op_ocell;rfl;exact bsM;rfl)|(apply op_slen;rfl)|(apply op_call hmf;exact bsD)|(exact bsO))|refine bsA ?_|(apply Lq.al;rfl;rfl;intro b)|(apply Open.cons;intro b)|(apply J.drawN;exact mixed;kernel_rfl)|refine bsC ?_)
    (refine J.ret ?_;(repeat (first|refine E.then_ret ?_|refine E.in_ret ?_)))
    refine E.close recVT.toTy (ss.recs.map MRec.v) (b:=ob) (o:=oo) (cap:=ra2) (Δ':=own zb _ _::own nb _ _::own W _ _::row (.slice la.1 ss.recs.length la.2) _ _ _::D) (List.Perm.swap _ _ _) hroom2 hle2 hcap2 (take_rowT recVT.toTy hpre2) ?_
    refine E.close docO.toTy xs2 (b:=nb) (o:=no) (cap:=c2) (Δ':=own W _ _::row (.slice (some ⟨ob,oo,none⟩) (ss.recs.map MRec.v).length ra2) _ _ _::row (.slice la.1 ss.recs.length la.2) _ _ _::own zb _ _::D) (permP [[_],[_],[_],[_],[_],_] [0,1,2,3,4,5] [2,3,0,4,1,5] (by decide)) hroom hle hcap (take_rowT docO.toTy hpre) ?_
    exact E.retR1 (Δ':=fsL W m A1 c1 xs1 (some ⟨nb,no,none⟩) c2 xs2) (G:=[own zb _ _]) rfl rfl ⟨rfl,rfl⟩ (by
      rw [hD]
      refine List.Perm.trans ?_ ((fsL_open hs).symm.append_right _)
      unfold fsC
      rw [List.length_map]
      refine List.Perm.trans ?_ List.perm_append_comm
      exact permP [[_],[_],[_],[_],[_],_] [0,1,2,3,4,5] [4,1,0,2,3,5] (by decide))
end Go.Proofs.YtljbbajelkkafaaDoor.L
/-
  The document's side of a model: steps of a stream,walked.
-/
namespace Go.Proofs.YtljbbajelkkafaaDoor.L
open Go
set_option linter.unusedSectionVars false
variable [Globs] [Has_sha_table] [Has_sha_begin]
set_option linter.unusedVariables false
theorem fsL_cons (W:Nat) (m:MM) (A1:Option Addr) (c1:Nat) (xs1:List DO) (A2:Option Addr) (c2:Nat) (xs2:List DO):fsL W m A1 c1 xs1 A2 c2 xs2=own W 91 (fsC m A1 xs1.length c1 A2 xs2.length c2)::(dst A2 c2 xs2++dst A1 c1 xs1):=rfl
theorem find_d {m:MM} {x:Str} {xs2:List DO} (hf:xs2.map (·.1)=m.cur.streams) (h:hasN m.cur.streams x=true) : ∃ s,xs2[findN m.cur.streams x]?=some s∧s.1=findS m x∧findN m.cur.streams x < xs2.length:=by
  have:=(findS_mem h).2.1
  obtain ⟨s,h1,h2⟩:=map_at' hf this
  exact ⟨s,h1,h2,(List.getElem?_eq_some_iff.1 h1).1⟩
theorem ofM_err {m:MM} {x:StepS} {full:Bool} (h:errFind m x.name ≠ 0):ofM m x full=(m,0,errFind m x.name):=by
  unfold ofM;rw [if_neg h]
theorem fitsD_upd {m:MM} {xs1 xs2:List DO} (h:fitsD m xs1 xs2) (i:Nat) (s:DO):fitsD (updM m i s.1) xs1 (xs2.set i s):=⟨h.1,map_set' h.2 i s⟩
theorem J.midD {α:Type} {C:Cx} {Γ:Env} {Δ:List Res} {Q:Exit→Act→World→Prop} {c:Code} {id:Nat} {K:Act→World→Prop} (V:α→Prop) (I:α→Env) (R:α→List Res) (h1:J C Γ Δ c (Exit.inBlock id (Exit.then (Mid C V I R) Q))) (h2 : ∀ x,V x→E C .normal (I x) (R x) (Exit.then K Q)):J C Γ Δ c (Exit.inBlock id (Exit.then K Q)):=fun H a w S =>
  wpIn_mono (h1 H a w S) fun e a' w' h=>by
    cases e with
    | normal =>
      obtain ⟨x,H',hV,S'⟩:=h
      exact h2 x hV H' a' w' S'
    | exit id' =>
      have h:(if id'=id then Exit.then (Mid C V I R) Q .normal a' w' else Exit.then (Mid C V I R) Q (.exit id') a' w'):=h
      show (if id'=id then Exit.then K Q .normal a' w' else Exit.then K Q (.exit id') a' w')
      by_cases he:id'=id
      · rw [if_pos he] at h ⊢
        obtain ⟨x,H',hV,S'⟩:=h
        exact h2 x hV H' a' w' S'
      · rw [if_neg he] at h ⊢
        exact h
    | _=>exact h
theorem take_snocM {α:Type} {l:List α} {i:Nat} {x:α} (h:l[i]?=some x):l.take i++[x]=l.take (i+1):=by rw [List.take_add_one,h];rfl
theorem op_slsB {P:Program} {Γ:Env} {Δ:List Res} {d:Option Nat} {ty t yt:Nat} {pos:String} {af:Array Edge} {g:Option (Nat × Bool)} {x y:Operand} {a b:Str} {v:Bool} (h1:opd Γ x=some (is (str a))) (h2:opd Γ y=some (is (str b))) (h:slt a b=v):OpP P Γ Δ ⟨d, .binOp .lss t x y yt,ty,pos,af,g⟩ (is (.bool v)):=by
  have:=op_slss (P:=P) (Δ:=Δ) (d:=d) (ty:=ty) (pos:=pos) (af:=af) (g:=g) (t:=t) (yt:=yt) h1 h2
  rwa [h] at this
theorem idx_lowerM {l:List Str} {x:Str} (h:adj slt l=true) (hx:x ∈ l):idxM (fun y=>decide (y=x)) l=(lowerN l x:Int) :=
  idxM_t ((mem_lower h).1 hx) (decide_eq_true rfl) fun j a hj ha=>decide_eq_false (slt_ne (lower_lt j a hj ha))
theorem splice_len {F seg:List Pr} {i:Nat} (h:i+seg.length≤F.length):(splice F i seg).length=F.length:=by
  unfold splice
  simp only [List.length_append,List.length_take,List.length_drop]
  omega
theorem splice_after {F:List Pr} {i:Nat} {a:Pr} (h:i+2≤F.length):(splice F i [a])[i+1]?=F[i+1]?:=by
  unfold splice
  have h1:(F.take i++[a]).length=i+1:=by rw [List.length_append,List.length_take];show min i F.length+1=_;omega
  rw [List.getElem?_append_right (by omega),h1,Nat.sub_self,List.getElem?_drop]
  rfl
theorem splice_two {F:List Pr} {i:Nat} {a b:Pr} (h:i+2≤F.length):splice (splice F i [a]) (i+1) [b]=splice F i [a,b]:=by
  have h1:(F.take i++[a]).length=i+1:=by rw [List.length_append,List.length_take];show min i F.length+1=_;omega
  unfold splice
  rw [List.take_left' h1,show i+1+[b].length=(F.take i++[a]).length+1 by rw [h1];rfl,List.drop_append,List.drop_of_length_le (by omega),Nat.add_sub_cancel_left,List.nil_append,List.drop_drop]
  simp only [List.append_assoc]
  rfl
variable [Has_ref02_k]
theorem drefleaf_fn (s:Str) (hs:s.length≤900000):Fn Tryd.prog 69 [is (str s)] (hashT.val (leafH s)):=(refleaf_fn s hs).to (by unfold leafH;rfl)
set_option linter.unusedVariables false
set_option linter.unusedSimpArgs false
attribute [local irreducible] J Lq E OpP PRun is any agg tup ptr sl PRunW OpE
attribute [local irreducible] slt row leafH shaH docR docL OpR dst fsL
set_option maxRecDepth 100000 in
set_option maxHeartbeats 16000000 in
theorem dof7_fnR {W:Nat} {m:MM} {A1:Option Addr} {c1:Nat} {xs1:List DO} {A2:Option Addr} {c2:Nat} {xs2:List DO} (x:StepS) (full:Bool) (hf:fitsD m xs1 xs2) (hk:MOk m) (hm:m.mnt=true) (hkind:x.kind=7) (hx:x.text.length≤400) :
    FnR Tryd.prog 42 [is (.pointer (some ⟨W,0,none⟩)),stepT.val x,is (.bool full)] (fsL W m A1 c1 xs1 A2 c2 xs2)
    (fun ψ Δ=>ψ=tup [is (.int .i64 (ofM m x full).2.1),is (.int .i64 (ofM m x full).2.2)]∧fsV W (ofM m x full).1 Δ):=by
  have hfs:fsV W m (fsL W m A1 c1 xs1 A2 c2 xs2):=⟨A1,c1,xs1,A2,c2,xs2,hf,rfl⟩
  obtain ⟨hl2,hg2⟩:=fitsD_g (clock:=m.cur.clock) hf.2 hk.cur
  have hfind:=dfind_fnR (W:=W) (A1:=A1) (c1:=c1) (A2:=A2) (c2:=c2) x.name hf hl2
  have htd:=hk.todo
  by_cases h:errFind m x.name=0
  case neg =>
    have hh:hasN m.cur.streams x.name=false:=by
      cases hh:hasN m.cur.streams x.name with
      | false=>rfl
      | true=>exact absurd (errFind_0 hm hh) h
    rw [ofM_err h,errFind_4 hm hh]
    rw [hh,if_neg (by decide)] at hfind
    refine FnR.mk' 203 Tryd.func42 rfl rfl rfl rfl fun w0 H0=>?_
    repeat (first|((first|(apply Lq.s;rfl)|apply PRun.s|(apply Lq.run;rfl;rfl;rfl;exact bsB)|(apply PRun.run;rfl;rfl;exact bsB));first|(exact bsE)|(exact bsO))|refine bsA ?_|(apply Lq.al;rfl;rfl;intro b)|(apply Open.cons;intro b)|refine bsC ?_)
    refine Lq.callS (Δ0:=fsL W m A1 c1 xs1 A2 c2 xs2) (Δf:=[]) hfind rfl bsD (by rw [List.append_nil]) ?_
    rintro _ _ ⟨rfl,rfl⟩
    rw [List.append_nil]
    repeat (first|((first|(apply Lq.s;rfl)|apply PRun.s|(apply Lq.run;rfl;rfl;rfl;exact bsB)|(apply PRun.run;rfl;rfl;exact bsB));first|(exact bsO))|refine bsA ?_|(apply Lq.al;rfl;rfl;intro b)|(apply Open.cons;intro b)|refine bsC ?_)
    (refine J.ret ?_;(repeat (first|refine E.then_ret ?_|refine E.in_ret ?_)))
    exact E.retR2 (G:=[]) rfl rfl rfl ⟨rfl,hfs⟩ (by rw [List.append_nil])
  obtain ⟨⟨ss,ra,la⟩,hs,hs1,hlt⟩:=find_d hf.2 (find_ok0 h).2
  dsimp only at hs1
  rw [ofM_ok h, ← hs1]
  rw [(find_ok0 h).2,if_pos rfl] at hfind
  generalize findN m.cur.streams x.name=K at *
  obtain ⟨hrl,hhl⟩:ss.recs.length≤1000∧ss.holds.length≤1000:=hg2 _ (List.mem_of_getElem? hs)
  have hso:StrOk ss:=hk.cur.2 ss (List.mem_of_getElem? (map_at hf.2 hs))
  have hKl:=(List.getElem?_eq_some_iff.1 hs).1
  refine FnR.mk' 203 Tryd.func42 rfl rfl rfl rfl fun w0 H0=>?_
  repeat (first|((first|(apply Lq.s;rfl)|apply PRun.s|(apply Lq.run;rfl;rfl;rfl;exact bsB)|(apply PRun.run;rfl;rfl;exact bsB));first|(exact bsE)|(exact bsO))|refine bsA ?_|(apply Lq.al;rfl;rfl;intro b)|(apply Open.cons;intro b)|refine bsC ?_)
  refine Lq.callS (Δ0:=fsL W m A1 c1 xs1 A2 c2 xs2) (Δf:=[]) hfind rfl bsD (by rw [List.append_nil]) ?_
  rintro _ _ ⟨rfl,rfl⟩
  rw [List.append_nil]
  repeat (first|((first|(apply Lq.s;rfl)|apply PRun.s|(apply Lq.run;rfl;rfl;rfl;exact bsB)|(apply PRun.run;rfl;rfl;exact bsB));first|(exact bsO))|refine bsA ?_|(apply Lq.al;rfl;rfl;intro b)|(apply Open.cons;intro b)|refine bsC ?_)
  obtain ⟨D,hD⟩ : ∃ D,D=docR (xs2.eraseIdx K)++(docL (xs2.eraseIdx K)++dst A1 c1 xs1):=⟨_,rfl⟩
  refine Lq.perm (fsL_open hs) ?_
  rw [← hD]
  unfold fsC
  refine Lq.openM (Δ':=own W 91 _::row _ _ _ _::row _ _ _ _::D) (permP [[_],[_],[_],[_],_] [0,1,2,3,4] [1,0,2,3,4] (by decide)) (by intro h;rw [h] at hs;simp at hs) ?_
  intro nb no cap pre post hR
  obtain ⟨hv,hpre,hle,hcap,hroom,_⟩:=hR
  injection hv with hA _ hc
  cases hA;cases hc
  repeat (first|((first|(apply Lq.s;rfl)|apply PRun.s|(apply Lq.run;rfl;rfl;rfl;exact bsB)|(apply PRun.run;rfl;rfl;exact bsB));first|(exact bsE)|(apply op_ocell;rfl;exact bsM;rfl)|(apply op_slen;rfl)|(apply op_siaddr;rfl;rfl;omega;omega)|(exact bsO))|refine bsA ?_|(apply Lq.al;rfl;rfl;intro b)|(apply Open.cons;intro b)|refine bsC ?_)
  refine Lq.close docO.toTy xs2 (b:=nb) (o:=no) (cap:=c2) (Δ':=own W 91 _::row _ _ _ _::row _ _ _ _::D) (List.Perm.refl _) hroom hle hcap (take_rowT docO.toTy hpre) ?_
  refine Lq.perm (Δ':=fsL W m A1 c1 xs1 (some ⟨nb,no,none⟩) c2 xs2) (by rw [hD];refine List.Perm.trans ?_ (fsL_open hs).symm;unfold fsC;exact List.Perm.swap _ _ _) ?_
  rw [Int.toNat_natCast]
  refine Lq.callS (Δ0:=fsL W m A1 c1 xs1 (some ⟨nb,no,none⟩) c2 xs2) (Δf:=[]) (dwhy_fnR x hf hk hs (by omega) hx) rfl bsD (by rw [List.append_nil]) ?_
  rintro _ _ ⟨rfl,rfl⟩
  rw [List.append_nil]
  by_cases hE:errS ss m.cur.clock x=0
  case neg =>
    rw [stepOf_err rfl hE]
    generalize errS ss m.cur.clock x=er at *
    repeat (first|((first|(apply Lq.s;rfl)|apply PRun.s|(apply Lq.run;rfl;rfl;rfl;exact bsB)|(apply PRun.run;rfl;rfl;exact bsB));first|(exact bsO))|refine bsA ?_|(apply Lq.al;rfl;rfl;intro b)|(apply Open.cons;intro b)|refine bsC ?_)
    (refine J.ret ?_;(repeat (first|refine E.then_ret ?_|refine E.in_ret ?_)))
    exact E.retR2 (G:=[]) rfl rfl rfl ⟨rfl,hfs⟩ (by rw [List.append_nil])
  rw [hE]
  repeat (first|((first|(apply Lq.s;rfl)|apply PRun.s|(apply Lq.run;rfl;rfl;rfl;exact bsB)|(apply PRun.run;rfl;rfl;exact bsB));first|(exact bsO))|refine bsA ?_|(apply Lq.al;rfl;rfl;intro b)|(apply Open.cons;intro b)|refine bsC ?_)
  rw [fsL_cons]
  refine Lq.callS (Δ0:=[_]) (Δf:=dst (some ⟨nb,no,none⟩) c2 xs2++dst A1 c1 xs1) (droom_fnR full htd) rfl bsD (List.Perm.refl _) ?_
  rintro _ _ ⟨rfl,rfl⟩
  by_cases hd:errDone m.todo full=0
  case neg =>
    rw [stepOf_done hE hd]
    rw [List.singleton_append, ← fsL_cons]
    generalize errDone m.todo full=er at *
    repeat (first|((first|(apply Lq.s;rfl)|apply PRun.s|(apply Lq.run;rfl;rfl;rfl;exact bsB)|(apply PRun.run;rfl;rfl;exact bsB));first|(exact bsO))|refine bsA ?_|(apply Lq.al;rfl;rfl;intro b)|(apply Open.cons;intro b)|refine bsC ?_)
    (refine J.ret ?_;(repeat (first|refine E.then_ret ?_|refine E.in_ret ?_)))
    exact E.retR2 (G:=[]) rfl rfl rfl ⟨rfl,hfs⟩ (by rw [List.append_nil])
  have hd0:=hd
  rw [hd]
  have hd200:=(done_ok hd0).1
  unfold fsC
  repeat (first|((first|(apply Lq.s;rfl)|apply PRun.s|(apply Lq.run;rfl;rfl;rfl;exact bsB)|(apply PRun.run;rfl;rfl;exact bsB));first|(exact bsE)|(apply op_ocell;rfl;exact bsM;rfl)|(apply op_slen;rfl)|(apply op_add (c:=((m.todo+1:Nat):Int));rfl;rfl;(rw [show (m.todo:Int)+1=((m.todo+1:Nat):Int) by omega];apply wrapi <;> omega))|(exact bsO))|refine bsA ?_|(apply Lq.al;rfl;rfl;intro b)|(apply Open.cons;intro b)|refine bsC ?_)
  refine Lq.perm (Δ':=fsL W { m with todo:=m.todo+1 } A1 c1 xs1 (some ⟨nb,no,none⟩) c2 xs2) (by rw [fsL_cons];exact List.Perm.refl _) ?_
  refine Lq.perm (fsL_open hs) ?_
  rw [← hD]
  unfold fsC
  refine Lq.openM (Δ':=own W 91 _::row _ _ _ _::row _ _ _ _::D) (permP [[_],[_],[_],[_],_] [0,1,2,3,4] [1,0,2,3,4] (by decide)) (by intro h;rw [h] at hs;simp at hs) ?_
  intro nb2 no2 cap2 pre post hR
  obtain ⟨hv,hpre,hle,hcap,hroom,_⟩:=hR
  injection hv with hA _ hc
  cases hA;cases hc
  obtain ⟨S',hS'⟩ : ∃ S':MStr,S'={ ss with retain:=x.n }:=⟨_,rfl⟩
  have hres:resS ss m.cur.clock x=S':=by rw [hS'];unfold resS;simp [hkind]
  rw [stepOf_ok hE hd0 (by rw [hkind];decide),hres,if_neg (by rw [hkind];decide)]
  refine Lq.storeE (φs':=pre++flat docO.toTy (xs2.set K (S',ra,la))++post) rfl rfl (List.Perm.refl _) (Seg.val (intT .i64) _) rfl (room_rfld docO.toTy (k:=1) (n:=1) hpre hs (show 1+1≤5 by decide)) (set_rfld docO.toTy (post:=post) (v:=(S',ra,la)) hpre hs (k:=1) (show 1+1≤5 by decide) (by rw [hS'];rfl)) ?_
  repeat (first|((first|(apply Lq.s;rfl)|apply PRun.s|(apply Lq.run;rfl;rfl;rfl;exact bsB)|(apply PRun.run;rfl;rfl;exact bsB));first|(exact bsO))|refine bsA ?_|(apply Lq.al;rfl;rfl;intro b)|(apply Open.cons;intro b)|refine bsC ?_)
  (refine J.ret ?_;(repeat (first|refine E.then_ret ?_|refine E.in_ret ?_)))
  refine E.close docO.toTy (xs2.set K (S',ra,la)) (b:=nb) (o:=no) (cap:=c2) (List.Perm.refl _) (set_len' docO.toTy hroom) (by rw [List.length_set];exact hle) hcap (take_rowT docO.toTy hpre) ?_
  refine E.retR2 (Δ':=fsL W (updM m K S') A1 c1 xs1 (some ⟨nb,no,none⟩) c2 (xs2.set K (S',ra,la))) (G:=[]) rfl rfl rfl ⟨rfl,_,_,_,_,_,_,fitsD_upd hf K (S',ra,la),rfl⟩ ?_
  have:=fsL_put (W:=W) (m:=updM m K S') (A1:=A1) (c1:=c1) (xs1:=xs1) (A2:=some ⟨nb,no,none⟩) (c2:=c2) (S',ra,la) hKl
  rw [List.append_nil]
  rw [List.length_set] at this ⊢
  refine List.Perm.trans ?_ this
  rw [hD,show S'.recs=ss.recs by rw [hS']]
  exact List.Perm.swap _ _ _
set_option maxRecDepth 100000 in
set_option maxHeartbeats 16000000 in
theorem dof5_fnR {W:Nat} {m:MM} {A1:Option Addr} {c1:Nat} {xs1:List DO} {A2:Option Addr} {c2:Nat} {xs2:List DO} (x:StepS) (full:Bool) (hf:fitsD m xs1 xs2) (hk:MOk m) (hm:m.mnt=true) (hkind:x.kind=5) (hx:x.text.length≤400) :
    FnR Tryd.prog 42 [is (.pointer (some ⟨W,0,none⟩)),stepT.val x,is (.bool full)] (fsL W m A1 c1 xs1 A2 c2 xs2)
    (fun ψ Δ=>ψ=tup [is (.int .i64 (ofM m x full).2.1),is (.int .i64 (ofM m x full).2.2)]∧fsV W (ofM m x full).1 Δ):=by
  have hfs:fsV W m (fsL W m A1 c1 xs1 A2 c2 xs2):=⟨A1,c1,xs1,A2,c2,xs2,hf,rfl⟩
  obtain ⟨hl2,hg2⟩:=fitsD_g (clock:=m.cur.clock) hf.2 hk.cur
  have hfind:=dfind_fnR (W:=W) (A1:=A1) (c1:=c1) (A2:=A2) (c2:=c2) x.name hf hl2
  have htd:=hk.todo
  by_cases h:errFind m x.name=0
  case neg =>
    have hh:hasN m.cur.streams x.name=false:=by
      cases hh:hasN m.cur.streams x.name with
      | false=>rfl
      | true=>exact absurd (errFind_0 hm hh) h
    rw [ofM_err h,errFind_4 hm hh]
    rw [hh,if_neg (by decide)] at hfind
    refine FnR.mk' 203 Tryd.func42 rfl rfl rfl rfl fun w0 H0=>?_
    repeat (first|((first|(apply Lq.s;rfl)|apply PRun.s|(apply Lq.run;rfl;rfl;rfl;exact bsB)|(apply PRun.run;rfl;rfl;exact bsB));first|(exact bsE)|(exact bsO))|refine bsA ?_|(apply Lq.al;rfl;rfl;intro b)|(apply Open.cons;intro b)|refine bsC ?_)
    refine Lq.callS (Δ0:=fsL W m A1 c1 xs1 A2 c2 xs2) (Δf:=[]) hfind rfl bsD (by rw [List.append_nil]) ?_
    rintro _ _ ⟨rfl,rfl⟩
    rw [List.append_nil]
    repeat (first|((first|(apply Lq.s;rfl)|apply PRun.s|(apply Lq.run;rfl;rfl;rfl;exact bsB)|(apply PRun.run;rfl;rfl;exact bsB));first|(exact bsO))|refine bsA ?_|(apply Lq.al;rfl;rfl;intro b)|(apply Open.cons;intro b)|refine bsC ?_)
    (refine J.ret ?_;(repeat (first|refine E.then_ret ?_|refine E.in_ret ?_)))
    exact E.retR2 (G:=[]) rfl rfl rfl ⟨rfl,hfs⟩ (by rw [List.append_nil])
  obtain ⟨⟨ss,ra,la⟩,hs,hs1,hlt⟩:=find_d hf.2 (find_ok0 h).2
  dsimp only at hs1
  rw [ofM_ok h, ← hs1]
  rw [(find_ok0 h).2,if_pos rfl] at hfind
  generalize findN m.cur.streams x.name=K at *
  obtain ⟨hrl,hhl⟩:ss.recs.length≤1000∧ss.holds.length≤1000:=hg2 _ (List.mem_of_getElem? hs)
  have hso:StrOk ss:=hk.cur.2 ss (List.mem_of_getElem? (map_at hf.2 hs))
  have hKl:=(List.getElem?_eq_some_iff.1 hs).1
  refine FnR.mk' 203 Tryd.func42 rfl rfl rfl rfl fun w0 H0=>?_
  repeat (first|((first|(apply Lq.s;rfl)|apply PRun.s|(apply Lq.run;rfl;rfl;rfl;exact bsB)|(apply PRun.run;rfl;rfl;exact bsB));first|(exact bsE)|(exact bsO))|refine bsA ?_|(apply Lq.al;rfl;rfl;intro b)|(apply Open.cons;intro b)|refine bsC ?_)
  refine Lq.callS (Δ0:=fsL W m A1 c1 xs1 A2 c2 xs2) (Δf:=[]) hfind rfl bsD (by rw [List.append_nil]) ?_
  rintro _ _ ⟨rfl,rfl⟩
  rw [List.append_nil]
  repeat (first|((first|(apply Lq.s;rfl)|apply PRun.s|(apply Lq.run;rfl;rfl;rfl;exact bsB)|(apply PRun.run;rfl;rfl;exact bsB));first|(exact bsO))|refine bsA ?_|(apply Lq.al;rfl;rfl;intro b)|(apply Open.cons;intro b)|refine bsC ?_)
  obtain ⟨D,hD⟩ : ∃ D,D=docR (xs2.eraseIdx K)++(docL (xs2.eraseIdx K)++dst A1 c1 xs1):=⟨_,rfl⟩
  refine Lq.perm (fsL_open hs) ?_
  rw [← hD]
  unfold fsC
  refine Lq.openM (Δ':=own W 91 _::row _ _ _ _::row _ _ _ _::D) (permP [[_],[_],[_],[_],_] [0,1,2,3,4] [1,0,2,3,4] (by decide)) (by intro h;rw [h] at hs;simp at hs) ?_
  intro nb no cap pre post hR
  obtain ⟨hv,hpre,hle,hcap,hroom,_⟩:=hR
  injection hv with hA _ hc
  cases hA;cases hc
  repeat (first|((first|(apply Lq.s;rfl)|apply PRun.s|(apply Lq.run;rfl;rfl;rfl;exact bsB)|(apply PRun.run;rfl;rfl;exact bsB));first|(exact bsE)|(apply op_ocell;rfl;exact bsM;rfl)|(apply op_slen;rfl)|(apply op_siaddr;rfl;rfl;omega;omega)|(exact bsO))|refine bsA ?_|(apply Lq.al;rfl;rfl;intro b)|(apply Open.cons;intro b)|refine bsC ?_)
  refine Lq.close docO.toTy xs2 (b:=nb) (o:=no) (cap:=c2) (Δ':=own W 91 _::row _ _ _ _::row _ _ _ _::D) (List.Perm.refl _) hroom hle hcap (take_rowT docO.toTy hpre) ?_
  refine Lq.perm (Δ':=fsL W m A1 c1 xs1 (some ⟨nb,no,none⟩) c2 xs2) (by rw [hD];refine List.Perm.trans ?_ (fsL_open hs).symm;unfold fsC;exact List.Perm.swap _ _ _) ?_
  rw [Int.toNat_natCast]
  refine Lq.callS (Δ0:=fsL W m A1 c1 xs1 (some ⟨nb,no,none⟩) c2 xs2) (Δf:=[]) (dwhy_fnR x hf hk hs (by omega) hx) rfl bsD (by rw [List.append_nil]) ?_
  rintro _ _ ⟨rfl,rfl⟩
  rw [List.append_nil]
  by_cases hE:errS ss m.cur.clock x=0
  case neg =>
    rw [stepOf_err rfl hE]
    generalize errS ss m.cur.clock x=er at *
    repeat (first|((first|(apply Lq.s;rfl)|apply PRun.s|(apply Lq.run;rfl;rfl;rfl;exact bsB)|(apply PRun.run;rfl;rfl;exact bsB));first|(exact bsO))|refine bsA ?_|(apply Lq.al;rfl;rfl;intro b)|(apply Open.cons;intro b)|refine bsC ?_)
    (refine J.ret ?_;(repeat (first|refine E.then_ret ?_|refine E.in_ret ?_)))
    exact E.retR2 (G:=[]) rfl rfl rfl ⟨rfl,hfs⟩ (by rw [List.append_nil])
  rw [hE]
  repeat (first|((first|(apply Lq.s;rfl)|apply PRun.s|(apply Lq.run;rfl;rfl;rfl;exact bsB)|(apply PRun.run;rfl;rfl;exact bsB));first|(exact bsO))|refine bsA ?_|(apply Lq.al;rfl;rfl;intro b)|(apply Open.cons;intro b)|refine bsC ?_)
  rw [fsL_cons]
  refine Lq.callS (Δ0:=[_]) (Δf:=dst (some ⟨nb,no,none⟩) c2 xs2++dst A1 c1 xs1) (droom_fnR full htd) rfl bsD (List.Perm.refl _) ?_
  rintro _ _ ⟨rfl,rfl⟩
  by_cases hd:errDone m.todo full=0
  case neg =>
    rw [stepOf_done hE hd]
    rw [List.singleton_append, ← fsL_cons]
    generalize errDone m.todo full=er at *
    repeat (first|((first|(apply Lq.s;rfl)|apply PRun.s|(apply Lq.run;rfl;rfl;rfl;exact bsB)|(apply PRun.run;rfl;rfl;exact bsB));first|(exact bsO))|refine bsA ?_|(apply Lq.al;rfl;rfl;intro b)|(apply Open.cons;intro b)|refine bsC ?_)
    (refine J.ret ?_;(repeat (first|refine E.then_ret ?_|refine E.in_ret ?_)))
    exact E.retR2 (G:=[]) rfl rfl rfl ⟨rfl,hfs⟩ (by rw [List.append_nil])
  have hd0:=hd
  rw [hd]
  have hd200:=(done_ok hd0).1
  unfold fsC
  repeat (first|((first|(apply Lq.s;rfl)|apply PRun.s|(apply Lq.run;rfl;rfl;rfl;exact bsB)|(apply PRun.run;rfl;rfl;exact bsB));first|(exact bsE)|(apply op_ocell;rfl;exact bsM;rfl)|(apply op_slen;rfl)|(apply op_add (c:=((m.todo+1:Nat):Int));rfl;rfl;(rw [show (m.todo:Int)+1=((m.todo+1:Nat):Int) by omega];apply wrapi <;> omega))|(exact bsO))|refine bsA ?_|(apply Lq.al;rfl;rfl;intro b)|(apply Open.cons;intro b)|refine bsC ?_)
  refine Lq.perm (Δ':=fsL W { m with todo:=m.todo+1 } A1 c1 xs1 (some ⟨nb,no,none⟩) c2 xs2) (by rw [fsL_cons];exact List.Perm.refl _) ?_
  refine Lq.perm (fsL_open hs) ?_
  rw [← hD]
  unfold fsC
  refine Lq.openM (Δ':=own W 91 _::row _ _ _ _::row _ _ _ _::D) (permP [[_],[_],[_],[_],_] [0,1,2,3,4] [1,0,2,3,4] (by decide)) (by intro h;rw [h] at hs;simp at hs) ?_
  intro nb2 no2 cap2 pre post hR
  obtain ⟨hv,hpre,hle,hcap,hroom,_⟩:=hR
  injection hv with hA _ hc
  cases hA;cases hc
  obtain ⟨S',hS'⟩ : ∃ S':MStr,S'={ ss with recs:=ss.recs++[⟨m.cur.clock,x.text,false,leafH x.text⟩] }:=⟨_,rfl⟩
  have hres:resS ss m.cur.clock x=S':=by rw [hS'];unfold resS;simp [hkind]
  rw [stepOf_ok hE hd0 (by rw [hkind];decide),hres,if_pos hkind]
  have hrv:ss.recs.map MRec.v++[⟨m.cur.clock,x.text,false⟩]=S'.recs.map MRec.v:=by rw [hS'];show _=(ss.recs++[_]).map MRec.v;rw [List.map_append];rfl
  have hlv:ss.recs.map MRec.hash++[leafH x.text]=S'.recs.map MRec.hash:=by rw [hS'];show _=(ss.recs++[_]).map MRec.hash;rw [List.map_append];rfl
  have hrm:(ss.recs.map MRec.v).length=ss.recs.length:=List.length_map ..
  have hlm:(ss.recs.map MRec.hash).length=ss.recs.length:=List.length_map ..
  repeat (first|((first|(apply Lq.s;rfl)|apply PRun.s|(apply Lq.run;rfl;rfl;rfl;exact bsB)|(apply PRun.run;rfl;rfl;exact bsB));first|(exact bsE)|(apply op_ocell (φ:=is (str ss.name));rfl;exact bsM;exact cell_rfld docO.toTy (k:=0) hpre hs (show 0 < 5 by decide))|(apply op_ocell (φ:=is (.int .i64 ss.retain));rfl;exact bsM;exact cell_rfld docO.toTy (k:=1) hpre hs (show 1 < 5 by decide))|(apply op_ocell (φ:=sl strT.toTy ss.holds);rfl;exact bsM;exact cell_rfld docO.toTy (k:=2) hpre hs (show 2 < 5 by decide))|(apply op_ocell (φ:=is (.slice ra.1 ss.recs.length ra.2));rfl;exact bsM;exact cell_rfld docO.toTy (k:=3) hpre hs (show 3 < 5 by decide))|(apply op_ocell (φ:=is (.slice la.1 ss.recs.length la.2));rfl;exact bsM;exact cell_rfld docO.toTy (k:=4) hpre hs (show 4 < 5 by decide))|(apply op_slen;rfl)|(exact bsO))|refine bsA ?_|(apply Lq.al;rfl;rfl;intro b)|(apply Open.cons;intro b)|refine bsC ?_)
  refine J.drawW1 (Δ:=own nb _ _::own W _ _::row (.slice la.1 ss.recs.length la.2) _ _ _::D) 15 [(none,none),(none,none),(none,none),(none,none),(none,none),(none,none),(none,none),(none,none),(none,none),(none,none),(none,none),(none,none),(none,none),(none,none),(some 9,some 70)] 9 (itemK (row (.slice ra.1 ss.recs.length ra.2) 73 recVT.toTy (ss.recs.map MRec.v))) rfl (permP [[_],[_],[_],[_],_] [0,1,2,3,4] [2,0,1,3,4] (by decide)) mixed (by kernel_rfl) ?_
  repeat (first|((first|apply PRunW.s|(apply PRunW.run;rfl;rfl;exact bsB)|(apply Lq.s;rfl)|apply PRun.s|(apply Lq.run;rfl;rfl;rfl;exact bsB)|(apply PRun.run;rfl;rfl;exact bsB));first|(apply op_ocell (φ:=is (str ss.name));rfl;exact bsM;exact cell_rfld docO.toTy (k:=0) hpre hs (show 0 < 5 by decide))|(apply op_ocell (φ:=is (.int .i64 ss.retain));rfl;exact bsM;exact cell_rfld docO.toTy (k:=1) hpre hs (show 1 < 5 by decide))|(apply op_ocell (φ:=sl strT.toTy ss.holds);rfl;exact bsM;exact cell_rfld docO.toTy (k:=2) hpre hs (show 2 < 5 by decide))|(apply op_ocell (φ:=is (.slice ra.1 ss.recs.length ra.2));rfl;exact bsM;exact cell_rfld docO.toTy (k:=3) hpre hs (show 3 < 5 by decide))|(apply op_ocell (φ:=is (.slice la.1 ss.recs.length la.2));rfl;exact bsM;exact cell_rfld docO.toTy (k:=4) hpre hs (show 4 < 5 by decide))|(exact bsE)|(apply op_ocell;rfl;exact bsM;rfl)|(apply op_slen;rfl)|(apply op_bslice recVT (xs:=[⟨m.cur.clock,x.text,false⟩]);(repeat (first|exact PO.nil _|(apply PO.cons;rfl)));rfl;rfl;rfl)|(exact bsO))|refine bsA ?_|(apply Lq.al;rfl;rfl;intro b)|(apply Open.cons;intro b)|refine bsC ?_|apply PRunW.nil|(apply PRunW.al;rfl)|(apply PRunW.pass;rfl;rfl)|(apply PRunW.skip;rfl;rfl;exact bsB)|(apply Open.pv;intro b)|apply Open.av|(apply Open.rv;intro A c))
  (apply PRunW.apK (T:=recVT) (xs:=ss.recs.map MRec.v) (ys:=[⟨m.cur.clock,x.text,false⟩]);rfl;rfl;rfl;exact (fun H w k=>⟨k,rfl⟩);(apply From.sl;rfl);rfl;rfl;(show _+1≤maxLen;unfold maxLen;omega);(show (_+1)*32≤_;omega))
  refine PRunW.nil (Open.rv fun A3 c3=>Open.nil ?_)
  rw [hrv,List.length_map]
  repeat (first|((first|(apply Lq.s;rfl)|apply PRun.s|(apply Lq.run;rfl;rfl;rfl;exact bsB)|(apply PRun.run;rfl;rfl;exact bsB));first|(exact bsO))|refine bsA ?_|(apply Lq.al;rfl;rfl;intro b)|(apply Open.cons;intro b)|refine bsC ?_)
  refine Lq.storeE (φs':=splice (pre++flat docO.toTy xs2++post) (no+K*5+3) [is (.slice A3 S'.recs.length c3)]) rfl rfl (permP [[_],[_],[_],[_],_] [0,1,2,3,4] [1,0,2,3,4] (by decide)) (Seg.is rfl) rfl (room_rfld docO.toTy (k:=3) (n:=1) hpre hs (show 3+1≤5 by decide)) rfl ?_
  have hroom2:=room_rfld docO.toTy (post:=post) (k:=3) (n:=2) hpre hs (show 3+2≤5 by decide)
  have hc4:(splice (pre++flat docO.toTy xs2++post) (no+K*5+3) [is (.slice A3 S'.recs.length c3)])[no+K*5+4]?=some (is (.slice la.1 ss.recs.length la.2)):=(splice_after (by exact hroom2)).trans (cell_rfld docO.toTy (post:=post) (k:=4) hpre hs (show 4 < 5 by decide))
  repeat (first|((first|(apply Lq.s;rfl)|apply PRun.s|(apply Lq.run;rfl;rfl;rfl;exact bsB)|(apply PRun.run;rfl;rfl;exact bsB));first|(exact bsO))|refine bsA ?_|(apply Lq.al;rfl;rfl;intro b)|(apply Open.cons;intro b)|refine bsC ?_)
  refine J.drawW1 (Δ:=own nb _ _::row (.slice A3 S'.recs.length c3) _ _ _::own W _ _::D) 10 [(none,none),(none,none),(none,none),(none,none),(none,none),(none,none),(none,none),(none,none),(none,none),(some 9,some 83)] 9 (itemK (row (.slice la.1 ss.recs.length la.2) 37 hashT.toTy (ss.recs.map MRec.hash))) rfl (permP [[_],[_],[_],[_],_] [0,1,2,3,4] [3,0,1,2,4] (by decide)) mixed (by kernel_rfl) ?_
  repeat (first|((first|apply PRunW.s|(apply PRunW.run;rfl;rfl;exact bsB)|(apply Lq.s;rfl)|apply PRun.s|(apply Lq.run;rfl;rfl;rfl;exact bsB)|(apply PRun.run;rfl;rfl;exact bsB));first|(apply op_ocell (φ:=is (.slice la.1 ss.recs.length la.2));rfl;exact bsM;exact hc4)|(exact bsE)|(apply op_call (drefleaf_fn x.text (by omega));exact bsD)|(apply op_bslice hashT (xs:=[leafH x.text]);(repeat (first|exact PO.nil _|(apply PO.cons;rfl)));rfl;rfl;rfl)|(exact bsO))|refine bsA ?_|(apply Lq.al;rfl;rfl;intro b)|(apply Open.cons;intro b)|refine bsC ?_|apply PRunW.nil|(apply PRunW.al;rfl)|(apply PRunW.pass;rfl;rfl)|(apply PRunW.skip;rfl;rfl;exact bsB)|(apply Open.pv;intro b)|apply Open.av|(apply Open.rv;intro A c))
  (apply PRunW.apK (T:=hashT) (xs:=ss.recs.map MRec.hash) (ys:=[leafH x.text]);rfl;rfl;rfl;exact (fun H w k=>⟨k,rfl⟩);(apply From.sl;rfl);rfl;rfl;(show _+1≤maxLen;unfold maxLen;omega);(show (_+1)*32≤_;omega))
  refine PRunW.nil (Open.rv fun A4 c4=>Open.nil ?_)
  rw [hlv,List.length_map]
  repeat (first|((first|(apply Lq.s;rfl)|apply PRun.s|(apply Lq.run;rfl;rfl;rfl;exact bsB)|(apply PRun.run;rfl;rfl;exact bsB));first|(exact bsO))|refine bsA ?_|(apply Lq.al;rfl;rfl;intro b)|(apply Open.cons;intro b)|refine bsC ?_)
  refine Lq.storeE (φs':=pre++flat docO.toTy (xs2.set K (S',(A3,c3),(A4,c4)))++post) rfl rfl (permP [[_],[_],[_],[_],_] [0,1,2,3,4] [1,0,2,3,4] (by decide)) (Seg.is rfl) rfl (by rw [splice_len (by exact Nat.le_trans (Nat.le_succ _) hroom2)];exact hroom2) ((splice_two (by exact hroom2)).trans (set_rfld docO.toTy (post:=post) (seg:=[is (.slice A3 S'.recs.length c3),is (.slice A4 S'.recs.length c4)]) (v:=(S',(A3,c3),(A4,c4))) hpre hs (k:=3) (show 3+2≤5 by decide) (by rw [hS'];rfl))) ?_
  repeat (first|((first|(apply Lq.s;rfl)|apply PRun.s|(apply Lq.run;rfl;rfl;rfl;exact bsB)|(apply PRun.run;rfl;rfl;exact bsB));first|(exact bsO))|refine bsA ?_|(apply Lq.al;rfl;rfl;intro b)|(apply Open.cons;intro b)|refine bsC ?_)
  (refine J.ret ?_;(repeat (first|refine E.then_ret ?_|refine E.in_ret ?_)))
  refine E.close docO.toTy (xs2.set K (S',(A3,c3),(A4,c4))) (b:=nb) (o:=no) (cap:=c2) (Δ':=row (.slice A4 S'.recs.length c4) _ _ _::row (.slice A3 S'.recs.length c3) _ _ _::own W _ _::D) (List.Perm.refl _) (set_len' docO.toTy hroom) (by rw [List.length_set];exact hle) hcap (take_rowT docO.toTy hpre) ?_
  refine E.retR2 (Δ':=fsL W (updM m K S') A1 c1 xs1 (some ⟨nb,no,none⟩) c2 (xs2.set K (S',(A3,c3),(A4,c4)))) (G:=[]) rfl rfl rfl ⟨rfl,_,_,_,_,_,_,fitsD_upd hf K (S',(A3,c3),(A4,c4)),rfl⟩ ?_
  have:=fsL_put (W:=W) (m:=updM m K S') (A1:=A1) (c1:=c1) (xs1:=xs1) (A2:=some ⟨nb,no,none⟩) (c2:=c2) (S',(A3,c3),(A4,c4)) hKl
  rw [List.append_nil]
  rw [List.length_set] at this ⊢
  refine List.Perm.trans ?_ this
  rw [hD]
  exact permP [[_],[_],[_],[_],_] [0,1,2,3,4] [3,0,2,1,4] (by decide)
set_option maxRecDepth 100000 in
set_option maxHeartbeats 16000000 in
theorem dof9_fnR {W:Nat} {m:MM} {A1:Option Addr} {c1:Nat} {xs1:List DO} {A2:Option Addr} {c2:Nat} {xs2:List DO} (x:StepS) (full:Bool) (hf:fitsD m xs1 xs2) (hk:MOk m) (hm:m.mnt=true) (hkind:x.kind=9) (hx:x.text.length≤400) :
    FnR Tryd.prog 42 [is (.pointer (some ⟨W,0,none⟩)),stepT.val x,is (.bool full)] (fsL W m A1 c1 xs1 A2 c2 xs2)
    (fun ψ Δ=>ψ=tup [is (.int .i64 (ofM m x full).2.1),is (.int .i64 (ofM m x full).2.2)]∧fsV W (ofM m x full).1 Δ):=by
  have hfs:fsV W m (fsL W m A1 c1 xs1 A2 c2 xs2):=⟨A1,c1,xs1,A2,c2,xs2,hf,rfl⟩
  obtain ⟨hl2,hg2⟩:=fitsD_g (clock:=m.cur.clock) hf.2 hk.cur
  have hfind:=dfind_fnR (W:=W) (A1:=A1) (c1:=c1) (A2:=A2) (c2:=c2) x.name hf hl2
  have htd:=hk.todo
  by_cases h:errFind m x.name=0
  case neg =>
    have hh:hasN m.cur.streams x.name=false:=by
      cases hh:hasN m.cur.streams x.name with
      | false=>rfl
      | true=>exact absurd (errFind_0 hm hh) h
    rw [ofM_err h,errFind_4 hm hh]
    rw [hh,if_neg (by decide)] at hfind
    refine FnR.mk' 203 Tryd.func42 rfl rfl rfl rfl fun w0 H0=>?_
    repeat (first|((first|(apply Lq.s;rfl)|apply PRun.s|(apply Lq.run;rfl;rfl;rfl;exact bsB)|(apply PRun.run;rfl;rfl;exact bsB));first|(exact bsE)|(exact bsO))|refine bsA ?_|(apply Lq.al;rfl;rfl;intro b)|(apply Open.cons;intro b)|refine bsC ?_)
    refine Lq.callS (Δ0:=fsL W m A1 c1 xs1 A2 c2 xs2) (Δf:=[]) hfind rfl bsD (by rw [List.append_nil]) ?_
    rintro _ _ ⟨rfl,rfl⟩
    rw [List.append_nil]
    repeat (first|((first|(apply Lq.s;rfl)|apply PRun.s|(apply Lq.run;rfl;rfl;rfl;exact bsB)|(apply PRun.run;rfl;rfl;exact bsB));first|(exact bsO))|refine bsA ?_|(apply Lq.al;rfl;rfl;intro b)|(apply Open.cons;intro b)|refine bsC ?_)
    (refine J.ret ?_;(repeat (first|refine E.then_ret ?_|refine E.in_ret ?_)))
    exact E.retR2 (G:=[]) rfl rfl rfl ⟨rfl,hfs⟩ (by rw [List.append_nil])
  obtain ⟨⟨ss,ra,la⟩,hs,hs1,hlt⟩:=find_d hf.2 (find_ok0 h).2
  dsimp only at hs1
  rw [ofM_ok h, ← hs1]
  rw [(find_ok0 h).2,if_pos rfl] at hfind
  generalize findN m.cur.streams x.name=K at *
  obtain ⟨hrl,hhl⟩:ss.recs.length≤1000∧ss.holds.length≤1000:=hg2 _ (List.mem_of_getElem? hs)
  have hso:StrOk ss:=hk.cur.2 ss (List.mem_of_getElem? (map_at hf.2 hs))
  have hKl:=(List.getElem?_eq_some_iff.1 hs).1
  refine FnR.mk' 203 Tryd.func42 rfl rfl rfl rfl fun w0 H0=>?_
  repeat (first|((first|(apply Lq.s;rfl)|apply PRun.s|(apply Lq.run;rfl;rfl;rfl;exact bsB)|(apply PRun.run;rfl;rfl;exact bsB));first|(exact bsE)|(exact bsO))|refine bsA ?_|(apply Lq.al;rfl;rfl;intro b)|(apply Open.cons;intro b)|refine bsC ?_)
  refine Lq.callS (Δ0:=fsL W m A1 c1 xs1 A2 c2 xs2) (Δf:=[]) hfind rfl bsD (by rw [List.append_nil]) ?_
  rintro _ _ ⟨rfl,rfl⟩
  rw [List.append_nil]
  repeat (first|((first|(apply Lq.s;rfl)|apply PRun.s|(apply Lq.run;rfl;rfl;rfl;exact bsB)|(apply PRun.run;rfl;rfl;exact bsB));first|(exact bsO))|refine bsA ?_|(apply Lq.al;rfl;rfl;intro b)|(apply Open.cons;intro b)|refine bsC ?_)
  obtain ⟨D,hD⟩ : ∃ D,D=docR (xs2.eraseIdx K)++(docL (xs2.eraseIdx K)++dst A1 c1 xs1):=⟨_,rfl⟩
  refine Lq.perm (fsL_open hs) ?_
  rw [← hD]
  unfold fsC
  refine Lq.openM (Δ':=own W 91 _::row _ _ _ _::row _ _ _ _::D) (permP [[_],[_],[_],[_],_] [0,1,2,3,4] [1,0,2,3,4] (by decide)) (by intro h;rw [h] at hs;simp at hs) ?_
  intro nb no cap pre post hR
  obtain ⟨hv,hpre,hle,hcap,hroom,_⟩:=hR
  injection hv with hA _ hc
  cases hA;cases hc
  repeat (first|((first|(apply Lq.s;rfl)|apply PRun.s|(apply Lq.run;rfl;rfl;rfl;exact bsB)|(apply PRun.run;rfl;rfl;exact bsB));first|(exact bsE)|(apply op_ocell;rfl;exact bsM;rfl)|(apply op_slen;rfl)|(apply op_siaddr;rfl;rfl;omega;omega)|(exact bsO))|refine bsA ?_|(apply Lq.al;rfl;rfl;intro b)|(apply Open.cons;intro b)|refine bsC ?_)
  refine Lq.close docO.toTy xs2 (b:=nb) (o:=no) (cap:=c2) (Δ':=own W 91 _::row _ _ _ _::row _ _ _ _::D) (List.Perm.refl _) hroom hle hcap (take_rowT docO.toTy hpre) ?_
  refine Lq.perm (Δ':=fsL W m A1 c1 xs1 (some ⟨nb,no,none⟩) c2 xs2) (by rw [hD];refine List.Perm.trans ?_ (fsL_open hs).symm;unfold fsC;exact List.Perm.swap _ _ _) ?_
  rw [Int.toNat_natCast]
  refine Lq.callS (Δ0:=fsL W m A1 c1 xs1 (some ⟨nb,no,none⟩) c2 xs2) (Δf:=[]) (dwhy_fnR x hf hk hs (by omega) hx) rfl bsD (by rw [List.append_nil]) ?_
  rintro _ _ ⟨rfl,rfl⟩
  rw [List.append_nil]
  by_cases hE:errS ss m.cur.clock x=0
  case neg =>
    rw [stepOf_err rfl hE]
    generalize errS ss m.cur.clock x=er at *
    repeat (first|((first|(apply Lq.s;rfl)|apply PRun.s|(apply Lq.run;rfl;rfl;rfl;exact bsB)|(apply PRun.run;rfl;rfl;exact bsB));first|(exact bsO))|refine bsA ?_|(apply Lq.al;rfl;rfl;intro b)|(apply Open.cons;intro b)|refine bsC ?_)
    (refine J.ret ?_;(repeat (first|refine E.then_ret ?_|refine E.in_ret ?_)))
    exact E.retR2 (G:=[]) rfl rfl rfl ⟨rfl,hfs⟩ (by rw [List.append_nil])
  rw [hE]
  repeat (first|((first|(apply Lq.s;rfl)|apply PRun.s|(apply Lq.run;rfl;rfl;rfl;exact bsB)|(apply PRun.run;rfl;rfl;exact bsB));first|(exact bsO))|refine bsA ?_|(apply Lq.al;rfl;rfl;intro b)|(apply Open.cons;intro b)|refine bsC ?_)
  rw [fsL_cons]
  refine Lq.callS (Δ0:=[_]) (Δf:=dst (some ⟨nb,no,none⟩) c2 xs2++dst A1 c1 xs1) (droom_fnR full htd) rfl bsD (List.Perm.refl _) ?_
  rintro _ _ ⟨rfl,rfl⟩
  by_cases hd:errDone m.todo full=0
  case neg =>
    rw [stepOf_done hE hd]
    rw [List.singleton_append, ← fsL_cons]
    generalize errDone m.todo full=er at *
    repeat (first|((first|(apply Lq.s;rfl)|apply PRun.s|(apply Lq.run;rfl;rfl;rfl;exact bsB)|(apply PRun.run;rfl;rfl;exact bsB));first|(exact bsO))|refine bsA ?_|(apply Lq.al;rfl;rfl;intro b)|(apply Open.cons;intro b)|refine bsC ?_)
    (refine J.ret ?_;(repeat (first|refine E.then_ret ?_|refine E.in_ret ?_)))
    exact E.retR2 (G:=[]) rfl rfl rfl ⟨rfl,hfs⟩ (by rw [List.append_nil])
  have hd0:=hd
  rw [hd]
  have hd200:=(done_ok hd0).1
  unfold fsC
  repeat (first|((first|(apply Lq.s;rfl)|apply PRun.s|(apply Lq.run;rfl;rfl;rfl;exact bsB)|(apply PRun.run;rfl;rfl;exact bsB));first|(exact bsE)|(apply op_ocell;rfl;exact bsM;rfl)|(apply op_slen;rfl)|(apply op_add (c:=((m.todo+1:Nat):Int));rfl;rfl;(rw [show (m.todo:Int)+1=((m.todo+1:Nat):Int) by omega];apply wrapi <;> omega))|(exact bsO))|refine bsA ?_|(apply Lq.al;rfl;rfl;intro b)|(apply Open.cons;intro b)|refine bsC ?_)
  refine J.perm (Δ':=fsL W { m with todo:=m.todo+1 } A1 c1 xs1 (some ⟨nb,no,none⟩) c2 xs2) (by rw [fsL_cons];exact List.Perm.refl _) ?_
  refine J.perm (fsL_open hs) ?_
  rw [← hD]
  unfold fsC
  refine J.open (Δ':=own W 91 _::row _ _ _ _::row _ _ _ _::D) (permP [[_],[_],[_],[_],_] [0,1,2,3,4] [1,0,2,3,4] (by decide)) (by intro h;rw [h] at hs;simp at hs) ?_
  intro nb2 no2 cap2 pre post hR
  obtain ⟨hv,hpre,hle,hcap,hroom,_⟩:=hR
  injection hv with hA _ hc
  cases hA;cases hc
  have hin:x.text ∈ ss.holds:=by
    have hE9:errS ss m.cur.clock x=if x.text ∈ ss.holds then 0 else 143:=by unfold errS;simp [hkind]
    by_cases hin:x.text ∈ ss.holds
    · exact hin
    · rw [hE9,if_neg hin] at hE;cases hE
  obtain ⟨k,hk9⟩ : ∃ k,k=lowerN ss.holds x.text:=⟨_,rfl⟩
  have hkl:k < ss.holds.length:=by rw [hk9];exact (List.getElem?_eq_some_iff.1 ((mem_lower hso.2.2.1).1 hin)).1
  have hhf:=held_fn ss.holds x.text hhl
  rw [idx_lowerM hso.2.2.1 hin, ← hk9] at hhf
  obtain ⟨S',hS'⟩ : ∃ S':MStr,S'={ ss with holds:=remM ss.holds x.text }:=⟨_,rfl⟩
  have hres:resS ss m.cur.clock x=S':=by rw [hS'];unfold resS;simp [hkind]
  have hrem:ss.holds.take k++ss.holds.drop (k+1)=S'.holds:=by rw [hS',hk9];rfl
  rw [stepOf_ok hE hd0 (by rw [hkind];decide),hres,if_neg (by rw [hkind];decide)]
  repeat (first|((first|(apply Lq.s;rfl)|apply PRun.s|(apply Lq.run;rfl;rfl;rfl;exact bsB)|(apply PRun.run;rfl;rfl;exact bsB));first|(exact bsE)|(apply op_ocell (φ:=is (str ss.name));rfl;exact bsM;exact cell_rfld docO.toTy (k:=0) hpre hs (show 0 < 5 by decide))|(apply op_ocell (φ:=is (.int .i64 ss.retain));rfl;exact bsM;exact cell_rfld docO.toTy (k:=1) hpre hs (show 1 < 5 by decide))|(apply op_ocell (φ:=sl strT.toTy ss.holds);rfl;exact bsM;exact cell_rfld docO.toTy (k:=2) hpre hs (show 2 < 5 by decide))|(apply op_ocell (φ:=is (.slice ra.1 ss.recs.length ra.2));rfl;exact bsM;exact cell_rfld docO.toTy (k:=3) hpre hs (show 3 < 5 by decide))|(apply op_ocell (φ:=is (.slice la.1 ss.recs.length la.2));rfl;exact bsM;exact cell_rfld docO.toTy (k:=4) hpre hs (show 4 < 5 by decide))|(apply op_slen;rfl)|(exact bsO))|refine bsA ?_|(apply Lq.al;rfl;rfl;intro b)|(apply Open.cons;intro b)|refine bsC ?_)
  (apply J.drawN;exact mixed;kernel_rfl)
  repeat (first|((first|(apply Lq.s;rfl)|apply PRun.s|(apply Lq.run;rfl;rfl;rfl;exact bsB)|(apply PRun.run;rfl;rfl;exact bsB));first|(exact bsE)|(apply op_ocell (φ:=is (str ss.name));rfl;exact bsM;exact cell_rfld docO.toTy (k:=0) hpre hs (show 0 < 5 by decide))|(apply op_ocell (φ:=is (.int .i64 ss.retain));rfl;exact bsM;exact cell_rfld docO.toTy (k:=1) hpre hs (show 1 < 5 by decide))|(apply op_ocell (φ:=sl strT.toTy ss.holds);rfl;exact bsM;exact cell_rfld docO.toTy (k:=2) hpre hs (show 2 < 5 by decide))|(apply op_ocell (φ:=is (.slice ra.1 ss.recs.length ra.2));rfl;exact bsM;exact cell_rfld docO.toTy (k:=3) hpre hs (show 3 < 5 by decide))|(apply op_ocell (φ:=is (.slice la.1 ss.recs.length la.2));rfl;exact bsM;exact cell_rfld docO.toTy (k:=4) hpre hs (show 4 < 5 by decide))|(apply op_slen;rfl)|(apply op_call hhf;exact bsD)|(exact bsO))|refine bsA ?_|(apply Lq.al;rfl;rfl;intro b)|(apply Open.cons;intro b)|refine bsC ?_)
  refine J.drawW 18 [(none,none),(none,none),(none,none),(none,none),(none,none),(none,none),(none,none),(none,none),(none,some 166),(none,none),(none,none),(none,none),(none,none),(none,none),(none,none),(none,none),(none,none),(some 166,none)] mixed (by kernel_rfl) ?_
  repeat (first|((first|apply PRunW.s|(apply PRunW.run;rfl;rfl;exact bsB)|(apply Lq.s;rfl)|apply PRun.s|(apply Lq.run;rfl;rfl;rfl;exact bsB)|(apply PRun.run;rfl;rfl;exact bsB));first|(exact bsE)|(apply op_ocell (φ:=is (str ss.name));rfl;exact bsM;exact cell_rfld docO.toTy (k:=0) hpre hs (show 0 < 5 by decide))|(apply op_ocell (φ:=is (.int .i64 ss.retain));rfl;exact bsM;exact cell_rfld docO.toTy (k:=1) hpre hs (show 1 < 5 by decide))|(apply op_ocell (φ:=sl strT.toTy ss.holds);rfl;exact bsM;exact cell_rfld docO.toTy (k:=2) hpre hs (show 2 < 5 by decide))|(apply op_ocell (φ:=is (.slice ra.1 ss.recs.length ra.2));rfl;exact bsM;exact cell_rfld docO.toTy (k:=3) hpre hs (show 3 < 5 by decide))|(apply op_ocell (φ:=is (.slice la.1 ss.recs.length la.2));rfl;exact bsM;exact cell_rfld docO.toTy (k:=4) hpre hs (show 4 < 5 by decide))|(apply op_ksl_hi (T:=strT.toTy) (hi:=k);rfl;rfl;omega)|(exact bsO))|refine bsA ?_|(apply Lq.al;rfl;rfl;intro b)|(apply Open.cons;intro b)|refine bsC ?_|apply PRunW.nil|(apply PRunW.al;rfl)|(apply PRunW.pass;rfl;rfl)|(apply PRunW.skip;rfl;rfl;exact bsB)|(apply Open.pv;intro b)|apply Open.av|(apply Open.rv;intro A c))
  refine PRunW.mk (R:=fun v=>row v 9 strT.toTy (ss.holds.take k)) (φ:=anySl (ss.holds.take k).length) anySl_row (opR_append (T:=strT) rfl (From.sl rfl) rfl rfl (by unfold maxLen;rw [List.length_take];omega) (by rw [List.length_take];show min _ _*16≤_;omega)) ?_
  repeat (first|((first|apply PRunW.s|(apply PRunW.run;rfl;rfl;exact bsB)|(apply Lq.s;rfl)|apply PRun.s|(apply Lq.run;rfl;rfl;rfl;exact bsB)|(apply PRun.run;rfl;rfl;exact bsB));first|(exact bsE)|(apply op_ocell (φ:=is (str ss.name));rfl;exact bsM;exact cell_rfld docO.toTy (k:=0) hpre hs (show 0 < 5 by decide))|(apply op_ocell (φ:=is (.int .i64 ss.retain));rfl;exact bsM;exact cell_rfld docO.toTy (k:=1) hpre hs (show 1 < 5 by decide))|(apply op_ocell (φ:=sl strT.toTy ss.holds);rfl;exact bsM;exact cell_rfld docO.toTy (k:=2) hpre hs (show 2 < 5 by decide))|(apply op_ocell (φ:=is (.slice ra.1 ss.recs.length ra.2));rfl;exact bsM;exact cell_rfld docO.toTy (k:=3) hpre hs (show 3 < 5 by decide))|(apply op_ocell (φ:=is (.slice la.1 ss.recs.length la.2));rfl;exact bsM;exact cell_rfld docO.toTy (k:=4) hpre hs (show 4 < 5 by decide))|(apply op_add (c:=((k+1:Nat):Int));rfl;rfl;(rw [show (k:Int)+1=((k+1:Nat):Int) by omega];apply wrapi <;> omega))|(apply op_ksl_lo (T:=strT.toTy) (lo:=k+1);rfl;rfl;omega)|(exact bsO))|refine bsA ?_|(apply Lq.al;rfl;rfl;intro b)|(apply Open.cons;intro b)|refine bsC ?_|apply PRunW.nil|(apply PRunW.al;rfl)|(apply PRunW.pass;rfl;rfl)|(apply PRunW.skip;rfl;rfl;exact bsB)|(apply Open.pv;intro b)|apply Open.av|(apply Open.rv;intro A c))
  (apply PRunW.apF (T:=strT) (xs:=ss.holds.take k) (ys:=ss.holds.drop (k+1));rfl;(apply From.sl;rfl);rfl;rfl;(unfold maxLen;rw [List.length_take,List.length_drop];omega);(rw [List.length_take,List.length_drop];show (_+_)*16≤_;omega))
  refine PRunW.nil (Open.nil ?_)
  rw [hrem]
  repeat (first|((first|(apply Lq.s;rfl)|apply PRun.s|(apply Lq.run;rfl;rfl;rfl;exact bsB)|(apply PRun.run;rfl;rfl;exact bsB));first|(exact bsO))|refine bsA ?_|(apply Lq.al;rfl;rfl;intro b)|(apply Open.cons;intro b)|refine bsC ?_)
  refine Lq.storeE (φs':=pre++flat docO.toTy (xs2.set K (S',ra,la))++post) (seg:=[sl strT.toTy S'.holds]) rfl rfl (List.Perm.refl _) Seg.sl rfl (room_rfld docO.toTy (k:=2) (n:=1) hpre hs (show 2+1≤5 by decide)) (set_rfld docO.toTy (post:=post) (v:=(S',ra,la)) hpre hs (k:=2) (show 2+1≤5 by decide) (by rw [hS'];rfl)) ?_
  repeat (first|((first|(apply Lq.s;rfl)|apply PRun.s|(apply Lq.run;rfl;rfl;rfl;exact bsB)|(apply PRun.run;rfl;rfl;exact bsB));first|(exact bsO))|refine bsA ?_|(apply Lq.al;rfl;rfl;intro b)|(apply Open.cons;intro b)|refine bsC ?_)
  (refine J.ret ?_;(repeat (first|refine E.then_ret ?_|refine E.in_ret ?_)))
  refine E.close docO.toTy (xs2.set K (S',ra,la)) (b:=nb) (o:=no) (cap:=c2) (List.Perm.refl _) (set_len' docO.toTy hroom) (by rw [List.length_set];exact hle) hcap (take_rowT docO.toTy hpre) ?_
  refine E.retR2 (Δ':=fsL W (updM m K S') A1 c1 xs1 (some ⟨nb,no,none⟩) c2 (xs2.set K (S',ra,la))) (G:=[]) rfl rfl rfl ⟨rfl,_,_,_,_,_,_,fitsD_upd hf K (S',ra,la),rfl⟩ ?_
  have:=fsL_put (W:=W) (m:=updM m K S') (A1:=A1) (c1:=c1) (xs1:=xs1) (A2:=some ⟨nb,no,none⟩) (c2:=c2) (S',ra,la) hKl
  rw [List.append_nil]
  rw [List.length_set] at this ⊢
  refine List.Perm.trans ?_ this
  rw [hD,show S'.recs=ss.recs by rw [hS']]
  exact List.Perm.swap _ _ _
set_option maxRecDepth 100000 in
set_option maxHeartbeats 16000000 in
theorem dof8_fnR {W:Nat} {m:MM} {A1:Option Addr} {c1:Nat} {xs1:List DO} {A2:Option Addr} {c2:Nat} {xs2:List DO} (x:StepS) (full:Bool) (hf:fitsD m xs1 xs2) (hk:MOk m) (hm:m.mnt=true) (hkind:x.kind=8) (hx:x.text.length≤400) :
    FnR Tryd.prog 42 [is (.pointer (some ⟨W,0,none⟩)),stepT.val x,is (.bool full)] (fsL W m A1 c1 xs1 A2 c2 xs2)
    (fun ψ Δ=>ψ=tup [is (.int .i64 (ofM m x full).2.1),is (.int .i64 (ofM m x full).2.2)]∧fsV W (ofM m x full).1 Δ):=by
  have hfs:fsV W m (fsL W m A1 c1 xs1 A2 c2 xs2):=⟨A1,c1,xs1,A2,c2,xs2,hf,rfl⟩
  obtain ⟨hl2,hg2⟩:=fitsD_g (clock:=m.cur.clock) hf.2 hk.cur
  have hfind:=dfind_fnR (W:=W) (A1:=A1) (c1:=c1) (A2:=A2) (c2:=c2) x.name hf hl2
  have htd:=hk.todo
  by_cases h:errFind m x.name=0
  case neg =>
    have hh:hasN m.cur.streams x.name=false:=by
      cases hh:hasN m.cur.streams x.name with
      | false=>rfl
      | true=>exact absurd (errFind_0 hm hh) h
    rw [ofM_err h,errFind_4 hm hh]
    rw [hh,if_neg (by decide)] at hfind
    refine FnR.mk' 203 Tryd.func42 rfl rfl rfl rfl fun w0 H0=>?_
    repeat (first|((first|(apply Lq.s;rfl)|apply PRun.s|(apply Lq.run;rfl;rfl;rfl;exact bsB)|(apply PRun.run;rfl;rfl;exact bsB));first|(exact bsE)|(exact bsO))|refine bsA ?_|(apply Lq.al;rfl;rfl;intro b)|(apply Open.cons;intro b)|refine bsC ?_)
    refine Lq.callS (Δ0:=fsL W m A1 c1 xs1 A2 c2 xs2) (Δf:=[]) hfind rfl bsD (by rw [List.append_nil]) ?_
    rintro _ _ ⟨rfl,rfl⟩
    rw [List.append_nil]
    repeat (first|((first|(apply Lq.s;rfl)|apply PRun.s|(apply Lq.run;rfl;rfl;rfl;exact bsB)|(apply PRun.run;rfl;rfl;exact bsB));first|(exact bsO))|refine bsA ?_|(apply Lq.al;rfl;rfl;intro b)|(apply Open.cons;intro b)|refine bsC ?_)
    (refine J.ret ?_;(repeat (first|refine E.then_ret ?_|refine E.in_ret ?_)))
    exact E.retR2 (G:=[]) rfl rfl rfl ⟨rfl,hfs⟩ (by rw [List.append_nil])
  obtain ⟨⟨ss,ra,la⟩,hs,hs1,hlt⟩:=find_d hf.2 (find_ok0 h).2
  dsimp only at hs1
  rw [ofM_ok h, ← hs1]
  rw [(find_ok0 h).2,if_pos rfl] at hfind
  generalize findN m.cur.streams x.name=K at *
  obtain ⟨hrl,hhl⟩:ss.recs.length≤1000∧ss.holds.length≤1000:=hg2 _ (List.mem_of_getElem? hs)
  have hso:StrOk ss:=hk.cur.2 ss (List.mem_of_getElem? (map_at hf.2 hs))
  have hKl:=(List.getElem?_eq_some_iff.1 hs).1
  refine FnR.mk' 203 Tryd.func42 rfl rfl rfl rfl fun w0 H0=>?_
  repeat (first|((first|(apply Lq.s;rfl)|apply PRun.s|(apply Lq.run;rfl;rfl;rfl;exact bsB)|(apply PRun.run;rfl;rfl;exact bsB));first|(exact bsE)|(exact bsO))|refine bsA ?_|(apply Lq.al;rfl;rfl;intro b)|(apply Open.cons;intro b)|refine bsC ?_)
  refine Lq.callS (Δ0:=fsL W m A1 c1 xs1 A2 c2 xs2) (Δf:=[]) hfind rfl bsD (by rw [List.append_nil]) ?_
  rintro _ _ ⟨rfl,rfl⟩
  rw [List.append_nil]
  repeat (first|((first|(apply Lq.s;rfl)|apply PRun.s|(apply Lq.run;rfl;rfl;rfl;exact bsB)|(apply PRun.run;rfl;rfl;exact bsB));first|(exact bsO))|refine bsA ?_|(apply Lq.al;rfl;rfl;intro b)|(apply Open.cons;intro b)|refine bsC ?_)
  obtain ⟨D,hD⟩ : ∃ D,D=docR (xs2.eraseIdx K)++(docL (xs2.eraseIdx K)++dst A1 c1 xs1):=⟨_,rfl⟩
  refine Lq.perm (fsL_open hs) ?_
  rw [← hD]
  unfold fsC
  refine Lq.openM (Δ':=own W 91 _::row _ _ _ _::row _ _ _ _::D) (permP [[_],[_],[_],[_],_] [0,1,2,3,4] [1,0,2,3,4] (by decide)) (by intro h;rw [h] at hs;simp at hs) ?_
  intro nb no cap pre post hR
  obtain ⟨hv,hpre,hle,hcap,hroom,_⟩:=hR
  injection hv with hA _ hc
  cases hA;cases hc
  repeat (first|((first|(apply Lq.s;rfl)|apply PRun.s|(apply Lq.run;rfl;rfl;rfl;exact bsB)|(apply PRun.run;rfl;rfl;exact bsB));first|(exact bsE)|(apply op_ocell;rfl;exact bsM;rfl)|(apply op_slen;rfl)|(apply op_siaddr;rfl;rfl;omega;omega)|(exact bsO))|refine bsA ?_|(apply Lq.al;rfl;rfl;intro b)|(apply Open.cons;intro b)|refine bsC ?_)
  refine Lq.close docO.toTy xs2 (b:=nb) (o:=no) (cap:=c2) (Δ':=own W 91 _::row _ _ _ _::row _ _ _ _::D) (List.Perm.refl _) hroom hle hcap (take_rowT docO.toTy hpre) ?_
  refine Lq.perm (Δ':=fsL W m A1 c1 xs1 (some ⟨nb,no,none⟩) c2 xs2) (by rw [hD];refine List.Perm.trans ?_ (fsL_open hs).symm;unfold fsC;exact List.Perm.swap _ _ _) ?_
  rw [Int.toNat_natCast]
  refine Lq.callS (Δ0:=fsL W m A1 c1 xs1 (some ⟨nb,no,none⟩) c2 xs2) (Δf:=[]) (dwhy_fnR x hf hk hs (by omega) hx) rfl bsD (by rw [List.append_nil]) ?_
  rintro _ _ ⟨rfl,rfl⟩
  rw [List.append_nil]
  by_cases hE:errS ss m.cur.clock x=0
  case neg =>
    rw [stepOf_err rfl hE]
    generalize errS ss m.cur.clock x=er at *
    repeat (first|((first|(apply Lq.s;rfl)|apply PRun.s|(apply Lq.run;rfl;rfl;rfl;exact bsB)|(apply PRun.run;rfl;rfl;exact bsB));first|(exact bsO))|refine bsA ?_|(apply Lq.al;rfl;rfl;intro b)|(apply Open.cons;intro b)|refine bsC ?_)
    (refine J.ret ?_;(repeat (first|refine E.then_ret ?_|refine E.in_ret ?_)))
    exact E.retR2 (G:=[]) rfl rfl rfl ⟨rfl,hfs⟩ (by rw [List.append_nil])
  rw [hE]
  repeat (first|((first|(apply Lq.s;rfl)|apply PRun.s|(apply Lq.run;rfl;rfl;rfl;exact bsB)|(apply PRun.run;rfl;rfl;exact bsB));first|(exact bsO))|refine bsA ?_|(apply Lq.al;rfl;rfl;intro b)|(apply Open.cons;intro b)|refine bsC ?_)
  rw [fsL_cons]
  refine Lq.callS (Δ0:=[_]) (Δf:=dst (some ⟨nb,no,none⟩) c2 xs2++dst A1 c1 xs1) (droom_fnR full htd) rfl bsD (List.Perm.refl _) ?_
  rintro _ _ ⟨rfl,rfl⟩
  by_cases hd:errDone m.todo full=0
  case neg =>
    rw [stepOf_done hE hd]
    rw [List.singleton_append, ← fsL_cons]
    generalize errDone m.todo full=er at *
    repeat (first|((first|(apply Lq.s;rfl)|apply PRun.s|(apply Lq.run;rfl;rfl;rfl;exact bsB)|(apply PRun.run;rfl;rfl;exact bsB));first|(exact bsO))|refine bsA ?_|(apply Lq.al;rfl;rfl;intro b)|(apply Open.cons;intro b)|refine bsC ?_)
    (refine J.ret ?_;(repeat (first|refine E.then_ret ?_|refine E.in_ret ?_)))
    exact E.retR2 (G:=[]) rfl rfl rfl ⟨rfl,hfs⟩ (by rw [List.append_nil])
  have hd0:=hd
  rw [hd]
  have hd200:=(done_ok hd0).1
  unfold fsC
  repeat (first|((first|(apply Lq.s;rfl)|apply PRun.s|(apply Lq.run;rfl;rfl;rfl;exact bsB)|(apply PRun.run;rfl;rfl;exact bsB));first|(exact bsE)|(apply op_ocell;rfl;exact bsM;rfl)|(apply op_slen;rfl)|(apply op_add (c:=((m.todo+1:Nat):Int));rfl;rfl;(rw [show (m.todo:Int)+1=((m.todo+1:Nat):Int) by omega];apply wrapi <;> omega))|(exact bsO))|refine bsA ?_|(apply Lq.al;rfl;rfl;intro b)|(apply Open.cons;intro b)|refine bsC ?_)
  refine J.perm (Δ':=fsL W { m with todo:=m.todo+1 } A1 c1 xs1 (some ⟨nb,no,none⟩) c2 xs2) (by rw [fsL_cons];exact List.Perm.refl _) ?_
  refine J.perm (fsL_open hs) ?_
  rw [← hD]
  unfold fsC
  refine J.open (Δ':=own W 91 _::row _ _ _ _::row _ _ _ _::D) (permP [[_],[_],[_],[_],_] [0,1,2,3,4] [1,0,2,3,4] (by decide)) (by intro h;rw [h] at hs;simp at hs) ?_
  intro nb2 no2 cap2 pre post hR
  obtain ⟨hv,hpre,hle,hcap,hroom,_⟩:=hR
  injection hv with hA _ hc
  cases hA;cases hc
  have hE8:errS ss m.cur.clock x=if nameOk x.text then (if x.text ∈ ss.holds then 142 else if ss.holds.length=4 then 3 else 0) else 130:=by unfold errS;simp [hkind]
  have hnk:nameOk x.text=true∧x.text ∉ ss.holds:=by
    rw [hE8] at hE
    cases hn:nameOk x.text with
    | false=>rw [hn] at hE;cases hE
    | true =>
      refine ⟨rfl,fun hin=>?_⟩
      rw [hn,if_pos rfl,if_pos hin] at hE;cases hE
  obtain ⟨S',hS'⟩ : ∃ S':MStr,S'={ ss with holds:=addM ss.holds x.text }:=⟨_,rfl⟩
  have hres:resS ss m.cur.clock x=S':=by rw [hS'];unfold resS;simp [hkind]
  obtain ⟨k,hk8⟩ : ∃ k,k=lowerN ss.holds x.text:=⟨_,rfl⟩
  have hkl:k≤ss.holds.length:=by rw [hk8];unfold lowerN;exact (List.takeWhile_sublist _).length_le
  have hadd:ss.holds.take k++[x.text]++ss.holds.drop k=S'.holds:=by rw [hS',hk8,List.append_assoc];rfl
  rw [stepOf_ok hE hd0 (by rw [hkind];decide),hres,if_neg (by rw [hkind];decide)]
  refine J.nilrow 9 strT.toTy ?_
  obtain ⟨D2,hD2⟩ : ∃ D2,D2=own nb 95 (pre++flat docO.toTy xs2++post)::own W 91 [is (.bool m.fmt),is (.bool m.mnt),is (.slice A1 xs1.length c1),is (.slice (some ⟨nb,no,none⟩) xs2.length c2),is (.int .i64 m.sure.clock),is (.int .i64 m.cur.clock),is (.int .i64 ((m.todo+1:Nat):Int))]::row (.slice ra.1 ss.recs.length ra.2) 73 recVT.toTy (ss.recs.map MRec.v)::row (.slice la.1 ss.recs.length la.2) 37 hashT.toTy (ss.recs.map MRec.hash)::D:=⟨_,rfl⟩
  refine J.midD (fun p:Option Addr × Nat=>True) (fun p=>[(4,ptr (stepT.cells x)),(9,is (.pointer (some ⟨nb,no+K*5,none⟩))),(11,is (.int .i64 0)),(12,is (.slice p.1 (ss.holds.take k).length p.2)),(13,is (.int .i64 (k:Int)))]) (fun p=>row (.slice p.1 (ss.holds.take k).length p.2) 9 strT.toTy (ss.holds.take k)::D2) ?_ ?_
  · refine J.loop (fun p:Nat × Option Addr × Nat=>p.1≤k) (fun p=>[(4,ptr (stepT.cells x)),(9,is (.pointer (some ⟨nb,no+K*5,none⟩))),(11,is (.int .i64 0)),(12,is (.slice p.2.1 (ss.holds.take p.1).length p.2.2)),(13,is (.int .i64 (p.1:Int)))]) (fun p=>row (.slice p.2.1 (ss.holds.take p.1).length p.2.2) 9 strT.toTy (ss.holds.take p.1)::D2) (fun p=>k - p.1) (0,none,0) (Nat.zero_le _) ⟨(by repeat' (first|exact trivial|refine ⟨rfl,?_⟩)),[],by dsimp only;rw [List.append_nil,hD2];exact List.Perm.refl _⟩ ?_
    rintro ⟨i,A6,c6⟩ hi
    dsimp only at hi ⊢
    rw [hD2]
    by_cases hik:i < k
    · obtain ⟨q,hq⟩ : ∃ q,ss.holds[i]?=some q:=⟨_,List.getElem?_eq_getElem (by omega)⟩
      have hs8:=lower_lt i q (by rw [← hk8];exact hik) hq
      have htl:(ss.holds.take i).length=i:=by rw [List.length_take];omega
      repeat (first|((first|(apply Lq.s;rfl)|apply PRun.s|(apply Lq.run;rfl;rfl;rfl;exact bsB)|(apply PRun.run;rfl;rfl;exact bsB));first|(exact bsO))|refine bsA ?_|(apply Lq.al;rfl;rfl;intro b)|(apply Open.cons;intro b)|refine bsC ?_)
      refine J.drawW 21 [(none,none),(none,none),(none,none),(none,none),(none,none),(none,none),(none,none),(none,none),(none,none),(none,none),(none,none),(none,none),(none,none),(none,none),(none,none),(none,none),(none,none),(none,none),(none,none),(none,none),(none,none)] mixed (by kernel_rfl) ?_
      repeat (first|((first|apply PRunW.s|(apply PRunW.run;rfl;rfl;exact bsB)|(apply Lq.s;rfl)|apply PRun.s|(apply Lq.run;rfl;rfl;rfl;exact bsB)|(apply PRun.run;rfl;rfl;exact bsB));first|(exact bsE)|(apply op_ocell (φ:=is (str ss.name));rfl;exact bsM;exact cell_rfld docO.toTy (k:=0) hpre hs (show 0 < 5 by decide))|(apply op_ocell (φ:=is (.int .i64 ss.retain));rfl;exact bsM;exact cell_rfld docO.toTy (k:=1) hpre hs (show 1 < 5 by decide))|(apply op_ocell (φ:=sl strT.toTy ss.holds);rfl;exact bsM;exact cell_rfld docO.toTy (k:=2) hpre hs (show 2 < 5 by decide))|(apply op_ocell (φ:=is (.slice ra.1 ss.recs.length ra.2));rfl;exact bsM;exact cell_rfld docO.toTy (k:=3) hpre hs (show 3 < 5 by decide))|(apply op_ocell (φ:=is (.slice la.1 ss.recs.length la.2));rfl;exact bsM;exact cell_rfld docO.toTy (k:=4) hpre hs (show 4 < 5 by decide))|(apply op_len (xs:=ss.holds);rfl)|(apply op_iaddr strT.toTy (x:=q);rfl;rfl;exact Int.natCast_nonneg _;(rw [Int.toNat_natCast];exact hq))|(apply op_load strT;rfl)|(apply op_slsB (a:=q) (b:=x.text);rfl;rfl;exact hs8)|(apply op_bslice strT (xs:=[q]);(repeat (first|exact PO.nil _|(apply PO.cons;rfl)));rfl;rfl;rfl)|(exact bsO))|refine bsA ?_|(apply Lq.al;rfl;rfl;intro b)|(apply Open.cons;intro b)|refine bsC ?_|apply PRunW.nil|(apply PRunW.al;rfl)|(apply PRunW.pass;rfl;rfl)|(apply PRunW.skip;rfl;rfl;exact bsB)|(apply Open.pv;intro b)|apply Open.av|(apply Open.rv;intro A c))
      (apply Lq.append (T:=strT) (xs:=ss.holds.take i) (ys:=[q]);rfl;exact List.Perm.refl _;(apply From.sl;rfl);rfl;rfl;rfl;(show _+1≤maxLen;unfold maxLen;omega);(show (_+1)*16≤_;omega))
      intro A7 c7
      rw [take_snocM hq]
      repeat (first|((first|(apply Lq.s;rfl)|apply PRun.s|(apply Lq.run;rfl;rfl;rfl;exact bsB)|(apply PRun.run;rfl;rfl;exact bsB));first|(apply op_add (c:=((i+1:Nat):Int));rfl;rfl;(rw [show (i:Int)+1=((i+1:Nat):Int) by omega];apply wrapi <;> omega))|(exact bsO))|refine bsA ?_|(apply Lq.al;rfl;rfl;intro b)|(apply Open.cons;intro b)|refine bsC ?_)
      exact E.again (i+1,A7,c7) (by dsimp only;omega) (by dsimp only;omega) ⟨(by repeat' (first|exact trivial|refine ⟨rfl,?_⟩)),[],by dsimp only;rw [List.append_nil]⟩
    · obtain rfl:i=k:=by omega
      by_cases hkl2:i < ss.holds.length
      · obtain ⟨q,hq⟩ : ∃ q,ss.holds[i]?=some q:=⟨_,List.getElem?_eq_getElem (by omega)⟩
        have hs8:=lower_at (by rw [← hk8];exact hq)
        repeat (first|((first|(apply Lq.s;rfl)|apply PRun.s|(apply Lq.run;rfl;rfl;rfl;exact bsB)|(apply PRun.run;rfl;rfl;exact bsB));first|(exact bsO))|refine bsA ?_|(apply Lq.al;rfl;rfl;intro b)|(apply Open.cons;intro b)|refine bsC ?_)
        refine J.drawW 21 [(none,none),(none,none),(none,none),(none,none),(none,none),(none,none),(none,none),(none,none),(none,none),(none,none),(none,none),(none,none),(none,none),(none,none),(none,none),(none,none),(none,none),(none,none),(none,none),(none,none),(none,none)] mixed (by kernel_rfl) ?_
        repeat (first|((first|apply PRunW.s|(apply PRunW.run;rfl;rfl;exact bsB)|(apply Lq.s;rfl)|apply PRun.s|(apply Lq.run;rfl;rfl;rfl;exact bsB)|(apply PRun.run;rfl;rfl;exact bsB));first|(exact bsE)|(apply op_ocell (φ:=is (str ss.name));rfl;exact bsM;exact cell_rfld docO.toTy (k:=0) hpre hs (show 0 < 5 by decide))|(apply op_ocell (φ:=is (.int .i64 ss.retain));rfl;exact bsM;exact cell_rfld docO.toTy (k:=1) hpre hs (show 1 < 5 by decide))|(apply op_ocell (φ:=sl strT.toTy ss.holds);rfl;exact bsM;exact cell_rfld docO.toTy (k:=2) hpre hs (show 2 < 5 by decide))|(apply op_ocell (φ:=is (.slice ra.1 ss.recs.length ra.2));rfl;exact bsM;exact cell_rfld docO.toTy (k:=3) hpre hs (show 3 < 5 by decide))|(apply op_ocell (φ:=is (.slice la.1 ss.recs.length la.2));rfl;exact bsM;exact cell_rfld docO.toTy (k:=4) hpre hs (show 4 < 5 by decide))|(apply op_len (xs:=ss.holds);rfl)|(apply op_iaddr strT.toTy (x:=q);rfl;rfl;exact Int.natCast_nonneg _;(rw [Int.toNat_natCast];exact hq))|(apply op_load strT;rfl)|(apply op_slsB (a:=q) (b:=x.text);rfl;rfl;exact hs8)|(exact bsO))|refine bsA ?_|(apply Lq.al;rfl;rfl;intro b)|(apply Open.cons;intro b)|refine bsC ?_|apply PRunW.nil|(apply PRunW.al;rfl)|(apply PRunW.pass;rfl;rfl)|(apply PRunW.skip;rfl;rfl;exact bsB)|(apply Open.pv;intro b)|apply Open.av|(apply Open.rv;intro A c))
        exact E.mid (A6,c6) trivial ⟨(by repeat' (first|exact trivial|refine ⟨rfl,?_⟩)),[],by dsimp only;rw [List.append_nil]⟩
      · repeat (first|((first|(apply Lq.s;rfl)|apply PRun.s|(apply Lq.run;rfl;rfl;rfl;exact bsB)|(apply PRun.run;rfl;rfl;exact bsB));first|(exact bsO))|refine bsA ?_|(apply Lq.al;rfl;rfl;intro b)|(apply Open.cons;intro b)|refine bsC ?_)
        refine J.drawW 21 [(none,none),(none,none),(none,none),(none,none),(none,none),(none,none),(none,none),(none,none),(none,none),(none,none),(none,none),(none,none),(none,none),(none,none),(none,none),(none,none),(none,none),(none,none),(none,none),(none,none),(none,none)] mixed (by kernel_rfl) ?_
        repeat (first|((first|apply PRunW.s|(apply PRunW.run;rfl;rfl;exact bsB)|(apply Lq.s;rfl)|apply PRun.s|(apply Lq.run;rfl;rfl;rfl;exact bsB)|(apply PRun.run;rfl;rfl;exact bsB));first|(exact bsE)|(apply op_ocell (φ:=is (str ss.name));rfl;exact bsM;exact cell_rfld docO.toTy (k:=0) hpre hs (show 0 < 5 by decide))|(apply op_ocell (φ:=is (.int .i64 ss.retain));rfl;exact bsM;exact cell_rfld docO.toTy (k:=1) hpre hs (show 1 < 5 by decide))|(apply op_ocell (φ:=sl strT.toTy ss.holds);rfl;exact bsM;exact cell_rfld docO.toTy (k:=2) hpre hs (show 2 < 5 by decide))|(apply op_ocell (φ:=is (.slice ra.1 ss.recs.length ra.2));rfl;exact bsM;exact cell_rfld docO.toTy (k:=3) hpre hs (show 3 < 5 by decide))|(apply op_ocell (φ:=is (.slice la.1 ss.recs.length la.2));rfl;exact bsM;exact cell_rfld docO.toTy (k:=4) hpre hs (show 4 < 5 by decide))|(apply op_len (xs:=ss.holds);rfl)|(exact bsO))|refine bsA ?_|(apply Lq.al;rfl;rfl;intro b)|(apply Open.cons;intro b)|refine bsC ?_|apply PRunW.nil|(apply PRunW.al;rfl)|(apply PRunW.pass;rfl;rfl)|(apply PRunW.skip;rfl;rfl;exact bsB)|(apply Open.pv;intro b)|apply Open.av|(apply Open.rv;intro A c))
        exact E.mid (A6,c6) trivial ⟨(by repeat' (first|exact trivial|refine ⟨rfl,?_⟩)),[],by dsimp only;rw [List.append_nil]⟩
  · rintro ⟨A6,c6⟩ _
    dsimp only
    rw [hD2]
    have htl:(ss.holds.take k).length=k:=by rw [List.length_take];omega
    have hdl:(ss.holds.drop k).length≤1000:=by rw [List.length_drop];omega
    repeat (first|((first|(apply Lq.s;rfl)|apply PRun.s|(apply Lq.run;rfl;rfl;rfl;exact bsB)|(apply PRun.run;rfl;rfl;exact bsB));first|(exact bsE)|(apply op_bslice strT (xs:=[x.text]);(repeat (first|exact PO.nil _|(apply PO.cons;rfl)));rfl;rfl;rfl)|(exact bsO))|refine bsA ?_|(apply Lq.al;rfl;rfl;intro b)|(apply Open.cons;intro b)|refine bsC ?_)
    (apply Lq.append (T:=strT) (xs:=ss.holds.take k) (ys:=[x.text]);rfl;exact List.Perm.refl _;(apply From.sl;rfl);rfl;rfl;rfl;(show _+1≤maxLen;unfold maxLen;omega);(show (_+1)*16≤_;omega))
    intro A7 c7
    have htl2:(ss.holds.take k++[x.text]).length=k+1:=by rw [List.length_append,htl];rfl
    repeat (first|((first|(apply Lq.s;rfl)|apply PRun.s|(apply Lq.run;rfl;rfl;rfl;exact bsB)|(apply PRun.run;rfl;rfl;exact bsB));first|(exact bsE)|(apply op_ocell (φ:=is (str ss.name));rfl;exact bsM;exact cell_rfld docO.toTy (k:=0) hpre hs (show 0 < 5 by decide))|(apply op_ocell (φ:=is (.int .i64 ss.retain));rfl;exact bsM;exact cell_rfld docO.toTy (k:=1) hpre hs (show 1 < 5 by decide))|(apply op_ocell (φ:=sl strT.toTy ss.holds);rfl;exact bsM;exact cell_rfld docO.toTy (k:=2) hpre hs (show 2 < 5 by decide))|(apply op_ocell (φ:=is (.slice ra.1 ss.recs.length ra.2));rfl;exact bsM;exact cell_rfld docO.toTy (k:=3) hpre hs (show 3 < 5 by decide))|(apply op_ocell (φ:=is (.slice la.1 ss.recs.length la.2));rfl;exact bsM;exact cell_rfld docO.toTy (k:=4) hpre hs (show 4 < 5 by decide))|(apply op_ksl_lo (T:=strT.toTy) (lo:=k);rfl;rfl;omega)|(exact bsO))|refine bsA ?_|(apply Lq.al;rfl;rfl;intro b)|(apply Open.cons;intro b)|refine bsC ?_)
    (apply Lq.append (T:=strT) (xs:=ss.holds.take k++[x.text]) (ys:=ss.holds.drop k);rfl;exact List.Perm.refl _;(apply From.sl;rfl);rfl;rfl;rfl;(unfold maxLen;omega);(show (_+_)*16≤_;omega))
    intro A8 c8
    refine Lq.freeze 144 rfl (List.Perm.refl _) ?_
    rw [hadd]
    repeat (first|((first|(apply Lq.s;rfl)|apply PRun.s|(apply Lq.run;rfl;rfl;rfl;exact bsB)|(apply PRun.run;rfl;rfl;exact bsB));first|(exact bsO))|refine bsA ?_|(apply Lq.al;rfl;rfl;intro b)|(apply Open.cons;intro b)|refine bsC ?_)

    refine Lq.storeE (φs':=pre++flat docO.toTy (xs2.set K (S',ra,la))++post) (seg:=[sl strT.toTy S'.holds]) rfl rfl (List.Perm.refl _) Seg.sl rfl (room_rfld docO.toTy (k:=2) (n:=1) hpre hs (show 2+1≤5 by decide)) (set_rfld docO.toTy (post:=post) (v:=(S',ra,la)) hpre hs (k:=2) (show 2+1≤5 by decide) (by rw [hS'];rfl)) ?_

    repeat (first|((first|(apply Lq.s;rfl)|apply PRun.s|(apply Lq.run;rfl;rfl;rfl;exact bsB)|(apply PRun.run;rfl;rfl;exact bsB));first|(exact bsO))|refine bsA ?_|(apply Lq.al;rfl;rfl;intro b)|(apply Open.cons;intro b)|refine bsC ?_)
    (refine J.ret ?_;(repeat (first|refine E.then_ret ?_|refine E.in_ret ?_)))
    refine E.close docO.toTy (xs2.set K (S',ra,la)) (b:=nb) (o:=no) (cap:=c2) (List.Perm.refl _) (set_len' docO.toTy hroom) (by rw [List.length_set];exact hle) hcap (take_rowT docO.toTy hpre) ?_
    refine E.retR2 (Δ':=fsL W (updM m K S') A1 c1 xs1 (some ⟨nb,no,none⟩) c2 (xs2.set K (S',ra,la))) (G:=[]) rfl rfl rfl ⟨rfl,_,_,_,_,_,_,fitsD_upd hf K (S',ra,la),rfl⟩ ?_
    have:=fsL_put (W:=W) (m:=updM m K S') (A1:=A1) (c1:=c1) (xs1:=xs1) (A2:=some ⟨nb,no,none⟩) (c2:=c2) (S',ra,la) hKl
    rw [List.append_nil]
    rw [List.length_set] at this ⊢
    refine List.Perm.trans ?_ this
    rw [hD,show S'.recs=ss.recs by rw [hS']]
    exact List.Perm.swap _ _ _
end Go.Proofs.YtljbbajelkkafaaDoor.L
/-
  The document's side of a model: shreds,walked.
-/
namespace Go.Proofs.YtljbbajelkkafaaDoor.L
open Go
set_option linter.unusedSectionVars false
variable [Globs] [Has_sha_table] [Has_sha_begin]
set_option linter.unusedVariables false
set_option linter.unusedVariables false
set_option linter.unusedSimpArgs false
attribute [local irreducible] J Lq E OpP PRun is any agg tup ptr sl PRunW OpE
attribute [local irreducible] slt row leafH shaH docR docL OpR dst fsL
set_option maxRecDepth 100000 in
set_option maxHeartbeats 16000000 in
theorem dof10_fnR {W:Nat} {m:MM} {A1:Option Addr} {c1:Nat} {xs1:List DO} {A2:Option Addr} {c2:Nat} {xs2:List DO} (x:StepS) (full:Bool) (hf:fitsD m xs1 xs2) (hk:MOk m) (hm:m.mnt=true) (hkind:x.kind=10) (hx:x.text.length≤400) :
    FnR Tryd.prog 42 [is (.pointer (some ⟨W,0,none⟩)),stepT.val x,is (.bool full)] (fsL W m A1 c1 xs1 A2 c2 xs2)
    (fun ψ Δ=>ψ=tup [is (.int .i64 (ofM m x full).2.1),is (.int .i64 (ofM m x full).2.2)]∧fsV W (ofM m x full).1 Δ):=by
  have hfs:fsV W m (fsL W m A1 c1 xs1 A2 c2 xs2):=⟨A1,c1,xs1,A2,c2,xs2,hf,rfl⟩
  obtain ⟨hl2,hg2⟩:=fitsD_g (clock:=m.cur.clock) hf.2 hk.cur
  have hfind:=dfind_fnR (W:=W) (A1:=A1) (c1:=c1) (A2:=A2) (c2:=c2) x.name hf hl2
  have htd:=hk.todo
  by_cases h:errFind m x.name=0
  case neg =>
    have hh:hasN m.cur.streams x.name=false:=by
      cases hh:hasN m.cur.streams x.name with
      | false=>rfl
      | true=>exact absurd (errFind_0 hm hh) h
    rw [ofM_err h,errFind_4 hm hh]
    rw [hh,if_neg (by decide)] at hfind
    refine FnR.mk' 203 Tryd.func42 rfl rfl rfl rfl fun w0 H0=>?_
    repeat (first|((first|(apply Lq.s;rfl)|apply PRun.s|(apply Lq.run;rfl;rfl;rfl;exact bsB)|(apply PRun.run;rfl;rfl;exact bsB));first|(exact bsE)|(exact bsO))|refine bsA ?_|(apply Lq.al;rfl;rfl;intro b)|(apply Open.cons;intro b)|refine bsC ?_)
    refine Lq.callS (Δ0:=fsL W m A1 c1 xs1 A2 c2 xs2) (Δf:=[]) hfind rfl bsD (by rw [List.append_nil]) ?_
    rintro _ _ ⟨rfl,rfl⟩
    rw [List.append_nil]
    repeat (first|((first|(apply Lq.s;rfl)|apply PRun.s|(apply Lq.run;rfl;rfl;rfl;exact bsB)|(apply PRun.run;rfl;rfl;exact bsB));first|(exact bsO))|refine bsA ?_|(apply Lq.al;rfl;rfl;intro b)|(apply Open.cons;intro b)|refine bsC ?_)
    (refine J.ret ?_;(repeat (first|refine E.then_ret ?_|refine E.in_ret ?_)))
    exact E.retR2 (G:=[]) rfl rfl rfl ⟨rfl,hfs⟩ (by rw [List.append_nil])
  obtain ⟨⟨ss,ra,la⟩,hs,hs1,hlt⟩:=find_d hf.2 (find_ok0 h).2
  dsimp only at hs1
  rw [ofM_ok h, ← hs1]
  rw [(find_ok0 h).2,if_pos rfl] at hfind
  generalize findN m.cur.streams x.name=K at *
  obtain ⟨hrl,hhl⟩:ss.recs.length≤1000∧ss.holds.length≤1000:=hg2 _ (List.mem_of_getElem? hs)
  have hso:StrOk ss:=hk.cur.2 ss (List.mem_of_getElem? (map_at hf.2 hs))
  have hKl:=(List.getElem?_eq_some_iff.1 hs).1
  refine FnR.mk' 203 Tryd.func42 rfl rfl rfl rfl fun w0 H0=>?_
  repeat (first|((first|(apply Lq.s;rfl)|apply PRun.s|(apply Lq.run;rfl;rfl;rfl;exact bsB)|(apply PRun.run;rfl;rfl;exact bsB));first|(exact bsE)|(exact bsO))|refine bsA ?_|(apply Lq.al;rfl;rfl;intro b)|(apply Open.cons;intro b)|refine bsC ?_)
  refine Lq.callS (Δ0:=fsL W m A1 c1 xs1 A2 c2 xs2) (Δf:=[]) hfind rfl bsD (by rw [List.append_nil]) ?_
  rintro _ _ ⟨rfl,rfl⟩
  rw [List.append_nil]
  repeat (first|((first|(apply Lq.s;rfl)|apply PRun.s|(apply Lq.run;rfl;rfl;rfl;exact bsB)|(apply PRun.run;rfl;rfl;exact bsB));first|(exact bsO))|refine bsA ?_|(apply Lq.al;rfl;rfl;intro b)|(apply Open.cons;intro b)|refine bsC ?_)
  obtain ⟨D,hD⟩ : ∃ D,D=docR (xs2.eraseIdx K)++(docL (xs2.eraseIdx K)++dst A1 c1 xs1):=⟨_,rfl⟩
  refine Lq.perm (fsL_open hs) ?_
  rw [← hD]
  unfold fsC
  refine Lq.openM (Δ':=own W 91 _::row _ _ _ _::row _ _ _ _::D) (permP [[_],[_],[_],[_],_] [0,1,2,3,4] [1,0,2,3,4] (by decide)) (by intro h;rw [h] at hs;simp at hs) ?_
  intro nb no cap pre post hR
  obtain ⟨hv,hpre,hle,hcap,hroom,_⟩:=hR
  injection hv with hA _ hc
  cases hA;cases hc
  repeat (first|((first|(apply Lq.s;rfl)|apply PRun.s|(apply Lq.run;rfl;rfl;rfl;exact bsB)|(apply PRun.run;rfl;rfl;exact bsB));first|(exact bsE)|(apply op_ocell;rfl;exact bsM;rfl)|(apply op_slen;rfl)|(apply op_siaddr;rfl;rfl;omega;omega)|(exact bsO))|refine bsA ?_|(apply Lq.al;rfl;rfl;intro b)|(apply Open.cons;intro b)|refine bsC ?_)
  refine Lq.close docO.toTy xs2 (b:=nb) (o:=no) (cap:=c2) (Δ':=own W 91 _::row _ _ _ _::row _ _ _ _::D) (List.Perm.refl _) hroom hle hcap (take_rowT docO.toTy hpre) ?_
  refine Lq.perm (Δ':=fsL W m A1 c1 xs1 (some ⟨nb,no,none⟩) c2 xs2) (by rw [hD];refine List.Perm.trans ?_ (fsL_open hs).symm;unfold fsC;exact List.Perm.swap _ _ _) ?_
  rw [Int.toNat_natCast]
  refine Lq.callS (Δ0:=fsL W m A1 c1 xs1 (some ⟨nb,no,none⟩) c2 xs2) (Δf:=[]) (dwhy_fnR x hf hk hs (by omega) hx) rfl bsD (by rw [List.append_nil]) ?_
  rintro _ _ ⟨rfl,rfl⟩
  rw [List.append_nil]
  by_cases hE:errS ss m.cur.clock x=0
  case neg =>
    rw [stepOf_err rfl hE]
    generalize errS ss m.cur.clock x=er at *
    repeat (first|((first|(apply Lq.s;rfl)|apply PRun.s|(apply Lq.run;rfl;rfl;rfl;exact bsB)|(apply PRun.run;rfl;rfl;exact bsB));first|(exact bsO))|refine bsA ?_|(apply Lq.al;rfl;rfl;intro b)|(apply Open.cons;intro b)|refine bsC ?_)
    (refine J.ret ?_;(repeat (first|refine E.then_ret ?_|refine E.in_ret ?_)))
    exact E.retR2 (G:=[]) rfl rfl rfl ⟨rfl,hfs⟩ (by rw [List.append_nil])
  rw [hE]
  repeat (first|((first|(apply Lq.s;rfl)|apply PRun.s|(apply Lq.run;rfl;rfl;rfl;exact bsB)|(apply PRun.run;rfl;rfl;exact bsB));first|(exact bsO))|refine bsA ?_|(apply Lq.al;rfl;rfl;intro b)|(apply Open.cons;intro b)|refine bsC ?_)
  rw [fsL_cons]
  refine Lq.callS (Δ0:=[_]) (Δf:=dst (some ⟨nb,no,none⟩) c2 xs2++dst A1 c1 xs1) (droom_fnR full htd) rfl bsD (List.Perm.refl _) ?_
  rintro _ _ ⟨rfl,rfl⟩
  by_cases hd:errDone m.todo full=0
  case neg =>
    rw [stepOf_done hE hd]
    rw [List.singleton_append, ← fsL_cons]
    generalize errDone m.todo full=er at *
    repeat (first|((first|(apply Lq.s;rfl)|apply PRun.s|(apply Lq.run;rfl;rfl;rfl;exact bsB)|(apply PRun.run;rfl;rfl;exact bsB));first|(exact bsO))|refine bsA ?_|(apply Lq.al;rfl;rfl;intro b)|(apply Open.cons;intro b)|refine bsC ?_)
    (refine J.ret ?_;(repeat (first|refine E.then_ret ?_|refine E.in_ret ?_)))
    exact E.retR2 (G:=[]) rfl rfl rfl ⟨rfl,hfs⟩ (by rw [List.append_nil])
  have hd0:=hd
  rw [hd]
  have hd200:=(done_ok hd0).1
  unfold fsC
  repeat (first|((first|(apply Lq.s;rfl)|apply PRun.s|(apply Lq.run;rfl;rfl;rfl;exact bsB)|(apply PRun.run;rfl;rfl;exact bsB));first|(exact bsE)|(apply op_ocell;rfl;exact bsM;rfl)|(apply op_slen;rfl)|(apply op_add (c:=((m.todo+1:Nat):Int));rfl;rfl;(rw [show (m.todo:Int)+1=((m.todo+1:Nat):Int) by omega];apply wrapi <;> omega))|(exact bsO))|refine bsA ?_|(apply Lq.al;rfl;rfl;intro b)|(apply Open.cons;intro b)|refine bsC ?_)
  refine J.perm (Δ':=fsL W { m with todo:=m.todo+1 } A1 c1 xs1 (some ⟨nb,no,none⟩) c2 xs2) (by rw [fsL_cons];exact List.Perm.refl _) ?_
  refine J.perm (fsL_open hs) ?_
  rw [← hD]
  unfold fsC
  refine J.open (Δ':=own W 91 _::row _ _ _ _::row _ _ _ _::D) (permP [[_],[_],[_],[_],_] [0,1,2,3,4] [1,0,2,3,4] (by decide)) (by intro h;rw [h] at hs;simp at hs) ?_
  intro nb2 no2 cap2 pre post hR
  obtain ⟨hv,hpre,hle,hcap,hroom,_⟩:=hR
  injection hv with hA _ hc
  cases hA;cases hc
  have hE10:errS ss m.cur.clock x=errShredM ss m.cur.clock x.n:=by unfold errS;simp [hkind]
  have hi0 : ¬ x.n < 0:=fun h=>by rw [hE10,errShred_range (.inl h)] at hE;cases hE
  have hi1 : ¬ (ss.recs.length:Int)≤x.n:=fun h=>by rw [hE10,errShred_range (.inr h)] at hE;cases hE
  obtain ⟨k,hxn⟩ : ∃ k:Nat,x.n=k:=⟨x.n.toNat,by omega⟩
  obtain ⟨r,hr⟩ : ∃ r,ss.recs[k]?=some r:=⟨_,List.getElem?_eq_getElem (by omega)⟩
  have hrv:(ss.recs.map MRec.v)[k]?=some r.v:=by rw [List.getElem?_map,hr];rfl
  obtain ⟨r2,hr2⟩ : ∃ r2:MRec,r2={ r with shred:=true,text:=[] }:=⟨_,rfl⟩
  obtain ⟨S',hS'⟩ : ∃ S':MStr,S'={ ss with recs:=ss.recs.set k r2 }:=⟨_,rfl⟩
  have hres:resS ss m.cur.clock x=S':=by
    have:resS ss m.cur.clock x={ ss with recs:=shredR ss.recs x.n.toNat }:=by unfold resS;simp [hkind]
    rw [this,hxn,Int.toNat_natCast,shredR_eq hr,hS',hr2]
  rw [stepOf_seal hE hd0 hkind,hres]
  have hrec:S'.recs=ss.recs.set k r2:=by rw [hS']
  have hrll:S'.recs.length=ss.recs.length:=by rw [hrec,List.length_set]
  have hrv2:(ss.recs.map MRec.v).set k ⟨r.time,[],true⟩=S'.recs.map MRec.v:=by
    rw [hrec,List.map_set,hr2];rfl
  have hrh2:S'.recs.map MRec.hash=ss.recs.map MRec.hash:=by
    rw [hrec,List.map_set,hr2]
    exact set_same (by rw [List.getElem?_map,hr];rfl)
  obtain ⟨ra1,ra2⟩:=ra
  refine J.open (Δ':=own nb _ _::own W _ _::row (.slice la.1 ss.recs.length la.2) _ _ _::D) (permP [[_],[_],[_],_] [0,1,2,3] [2,0,1,3] (by decide)) (by intro h;rw [h] at hrv;simp at hrv) ?_
  intro ob oo ocap pre2 post2 hR2
  obtain ⟨hv2,hpre2,hle2,hcap2,hroom2,_⟩:=hR2
  injection hv2 with hA2 _ hc2
  cases hA2;cases hc2
  refine J.drawW 19 [(none,none),(none,none),(none,none),(none,none),(none,none),(none,none),(none,none),(none,none),(none,none),(none,none),(none,none),(none,none),(none,none),(none,none),(none,none),(none,none),(none,none),(none,none),(none,none)] mixed (by kernel_rfl) ?_
  repeat (first|((first|apply PRunW.s|(apply PRunW.run;rfl;rfl;exact bsB)|(apply Lq.s;rfl)|apply PRun.s|(apply Lq.run;rfl;rfl;rfl;exact bsB)|(apply PRun.run;rfl;rfl;exact bsB));first|(refine op_load (intT .i64) (x:=((k:Nat):Int)) ?_;(rw [← hxn];rfl))|(exact bsE)|(apply op_ocell (φ:=is (.int .i64 ss.retain));rfl;exact bsM;exact cell_rfld docO.toTy (k:=1) hpre hs (show 1 < 5 by decide))|(apply op_ocell (φ:=sl strT.toTy ss.holds);rfl;exact bsM;exact cell_rfld docO.toTy (k:=2) hpre hs (show 2 < 5 by decide))|(apply op_ocell (φ:=is (.slice (some ⟨ob,oo,none⟩) ss.recs.length ra2));rfl;exact bsM;exact cell_rfld docO.toTy (k:=3) hpre hs (show 3 < 5 by decide))|(apply op_siaddr;rfl;rfl;omega;omega)|(apply op_ocell (φ:=is (.int .i64 r.time));rfl;exact bsM;(rw [Int.toNat_natCast];exact cell_rfld recVT.toTy (k:=0) hpre2 hrv (show 0 < 3 by decide)))|(apply op_ocell (φ:=is (.bool r.shred));rfl;exact bsM;(rw [Int.toNat_natCast];exact cell_rfld recVT.toTy (k:=2) hpre2 hrv (show 2 < 3 by decide)))|(exact bsO))|refine bsA ?_|(apply Lq.al;rfl;rfl;intro b)|(apply Open.cons;intro b)|refine bsC ?_|apply PRunW.nil|(apply PRunW.al;rfl)|(apply PRunW.pass;rfl;rfl)|(apply PRunW.skip;rfl;rfl;exact bsB)|(apply Open.pv;intro b)|apply Open.av|(apply Open.rv;intro A c))
  rw [Int.toNat_natCast]
  refine Lq.storeE (φs':=pre2++flat recVT.toTy (S'.recs.map MRec.v)++post2) (seg:=recVT.cells ⟨r.time,[],true⟩) rfl rfl (List.Perm.refl _) Seg.agg rfl (room_rfld recVT.toTy (k:=0) (n:=3) hpre2 hrv (show 0+3≤3 by decide)) (by rw [← hrv2];exact set_rfld recVT.toTy (post:=post2) (seg:=recVT.cells ⟨r.time,[],true⟩) (v:=⟨r.time,[],true⟩) hpre2 hrv (k:=0) (show 0+3≤3 by decide) rfl) ?_
  repeat (first|((first|(apply Lq.s;rfl)|apply PRun.s|(apply Lq.run;rfl;rfl;rfl;exact bsB)|(apply PRun.run;rfl;rfl;exact bsB));first|(exact bsO))|refine bsA ?_|(apply Lq.al;rfl;rfl;intro b)|(apply Open.cons;intro b)|refine bsC ?_)
  have hml:(S'.recs.map MRec.v).length=ss.recs.length:=by rw [List.length_map,hrll]
  refine Lq.close recVT.toTy (S'.recs.map MRec.v) (b:=ob) (o:=oo) (cap:=ra2) (Δ':=own nb _ _::own W _ _::row (.slice la.1 ss.recs.length la.2) _ _ _::D) (List.Perm.refl _) (by rw [← hrv2];exact set_len' recVT.toTy hroom2) (by rw [hml];rw [List.length_map] at hle2;exact hle2) hcap2 (take_rowT recVT.toTy hpre2) ?_
  have hfl:=flat_set_same docO.toTy (v:=(S',(some ⟨ob,oo,none⟩,ra2),la)) hs (by
    show [is (str S'.name),is (.int .i64 S'.retain),sl strT.toTy S'.holds,is (.slice (some ⟨ob,oo,none⟩) S'.recs.length ra2),is (.slice la.1 S'.recs.length la.2)]=_
    rw [hrll,hS'];rfl)
  refine Lq.close docO.toTy (xs2.set K (S',(some ⟨ob,oo,none⟩,ra2),la)) (b:=nb) (o:=no) (cap:=c2) (Δ':=row (.slice (some ⟨ob,oo,none⟩) (S'.recs.map MRec.v).length ra2) _ _ _::own W _ _::row (.slice la.1 ss.recs.length la.2) _ _ _::D) (List.Perm.swap _ _ _) hroom (by rw [List.length_set];exact hle) hcap (by rw [List.length_set,hfl];exact take_rowT docO.toTy hpre) ?_
  refine Lq.callS (Δ0:=fsL W (updM m K S') A1 c1 xs1 (some ⟨nb,no,none⟩) c2 (xs2.set K (S',(some ⟨ob,oo,none⟩,ra2),la))) (Δf:=[]) (dseal_fnR (fitsD_upd hf K (S',(some ⟨ob,oo,none⟩,ra2),la)) (by rw [List.length_set];omega) (fun y hy=>by
    rcases List.mem_or_eq_of_mem_set hy with h1|h1
    · exact hg2 y h1
    · rw [h1]
      exact ⟨by show S'.recs.length≤1000;omega,by show S'.holds.length≤1000;rw [hS'];exact hhl⟩)) rfl bsD (by
    have:=fsL_put (W:=W) (m:=updM m K S') (A1:=A1) (c1:=c1) (xs1:=xs1) (A2:=some ⟨nb,no,none⟩) (c2:=c2) (S',(some ⟨ob,oo,none⟩,ra2),la) hKl
    rw [List.append_nil]
    rw [List.length_set] at this ⊢
    refine List.Perm.trans ?_ this
    rw [hD,hml,hrh2,hrll]
    exact permP [[_],[_],[_],[_],_] [0,1,2,3,4] [2,0,1,3,4] (by decide)) ?_
  rintro _ D2 hV
  rw [List.append_nil]
  repeat (first|((first|(apply Lq.s;rfl)|apply PRun.s|(apply Lq.run;rfl;rfl;rfl;exact bsB)|(apply PRun.run;rfl;rfl;exact bsB));first|(exact bsO))|refine bsA ?_|(apply Lq.al;rfl;rfl;intro b)|(apply Open.cons;intro b)|refine bsC ?_)
  (refine J.ret ?_;(repeat (first|refine E.then_ret ?_|refine E.in_ret ?_)))
  exact E.retR2 (G:=[]) rfl rfl rfl ⟨rfl,hV⟩ (by rw [List.append_nil])
end Go.Proofs.YtljbbajelkkafaaDoor.L
/-
  The document's side of a model: streams made,walked.
-/
namespace Go.Proofs.YtljbbajelkkafaaDoor.L
open Go
set_option linter.unusedSectionVars false
variable [Globs] [Has_sha_table] [Has_sha_begin]
set_option linter.unusedVariables false
theorem dst_cons (A:Option Addr) (c:Nat) (xs:List DO):dst A c xs=row (.slice A xs.length c) 95 docO.toTy xs::(docR xs++docL xs):=rfl
def newD (x:Str):DO:=(⟨x,0,[],[]⟩,(none,0),(none,0))
theorem newD_conv (x:Str) : ∀ H,All2 (fun (p q:Pr) => ∀ v,p.h H v→q.h H v) [is (str x),is (.int .i64 0),is (.slice none 0 0),is (.slice none 0 0),is (.slice none 0 0)] (docO.cells (newD x)):=fun H=>⟨fun _ h=>h,fun _ h=>h,fun v h=>sl_nil H v h,fun _ h=>h,fun _ h=>h,trivial⟩
theorem docR1_new (x:Str):docR1 (newD x)=row (.slice none 0 0) 73 recVT.toTy []:=rfl
theorem docL1_new (x:Str):docL1 (newD x)=row (.slice none 0 0) 37 hashT.toTy []:=rfl
variable [Has_ref02_k]
set_option linter.unusedVariables false
set_option linter.unusedSimpArgs false
attribute [local irreducible] J Lq E OpP PRun is any agg tup ptr sl PRunW OpE
attribute [local irreducible] slt row leafH shaH docR docL OpR dst fsL
set_option maxRecDepth 100000 in
set_option maxHeartbeats 8000000 in
theorem dcreateV {W:Nat} {m:MM} (x:Str) (full:Bool) (hk:MOk m) (hm:m.mnt=true) (hx:x.length≤maxLen):FnV Tryd.prog 39 [is (.pointer (some ⟨W,0,none⟩)),is (str x),is (.bool full)] (fsV W m) (is (.int .i64 (createMM m x full).2)) (fsV W (createMM m x full).1):=by
  intro Δ hV
  obtain ⟨A1,c1,xs1,A2,c2,xs2,hf,rfl⟩:=hV
  have hfs:fsV W m (fsL W m A1 c1 xs1 A2 c2 xs2):=⟨A1,c1,xs1,A2,c2,xs2,hf,rfl⟩
  obtain ⟨hl2,hg2⟩:=fitsD_g (clock:=m.cur.clock) hf.2 hk.cur
  have hfind:=dfind_fnR (W:=W) (A1:=A1) (c1:=c1) (A2:=A2) (c2:=c2) x hf hl2
  have hnc:=rncheckM_fn x hx
  have htd:=hk.todo
  have hll:=map_len hf.2
  refine FnR.mk' 55 Tryd.func39 rfl rfl rfl rfl fun w0 H0=>?_
  cases hn:nameOk x with
  | false =>
    rw [nameE_bad hn] at hnc
    have he:errCreate m x=130:=by unfold errCreate;rw [hm,hn];rfl
    rw [show createMM m x full=(m,130) by unfold createMM;rw [he,if_neg (by decide)]]
    repeat (first|((first|(apply Lq.s;rfl)|apply PRun.s|(apply Lq.run;rfl;rfl;rfl;exact bsB)|(apply PRun.run;rfl;rfl;exact bsB));first|(apply op_call hnc;exact bsD)|(exact bsO))|refine bsA ?_|(apply Lq.al;rfl;rfl;intro b)|(apply Open.cons;intro b)|refine bsC ?_)
    (refine J.ret ?_;(repeat (first|refine E.then_ret ?_|refine E.in_ret ?_)))
    exact E.retR1 (G:=[]) rfl rfl ⟨rfl,hfs⟩ (by rw [List.append_nil])
  | true =>
    rw [nameE_ok hn] at hnc
    repeat (first|((first|(apply Lq.s;rfl)|apply PRun.s|(apply Lq.run;rfl;rfl;rfl;exact bsB)|(apply PRun.run;rfl;rfl;exact bsB));first|(apply op_call hnc;exact bsD)|(exact bsO))|refine bsA ?_|(apply Lq.al;rfl;rfl;intro b)|(apply Open.cons;intro b)|refine bsC ?_)
    refine Lq.wanted rfl rfl rfl ?_
    refine Lq.callS (Δ0:=fsL W m A1 c1 xs1 A2 c2 xs2) (Δf:=[]) hfind rfl bsD (by rw [List.append_nil]) ?_
    rintro _ _ ⟨rfl,rfl⟩
    rw [List.append_nil]
    cases hh:hasN m.cur.streams x with
    | true =>
      have he:errCreate m x=160:=by unfold errCreate;rw [hm,hn,hh];rfl
      rw [show createMM m x full=(m,160) by unfold createMM;rw [he,if_neg (by decide)]]
      rw [if_pos rfl]
      generalize findN m.cur.streams x=K at *
      repeat (first|((first|(apply Lq.s;rfl)|apply PRun.s|(apply Lq.run;rfl;rfl;rfl;exact bsB)|(apply PRun.run;rfl;rfl;exact bsB));first|(exact bsO))|refine bsA ?_|(apply Lq.al;rfl;rfl;intro b)|(apply Open.cons;intro b)|refine bsC ?_)
      (refine J.ret ?_;(repeat (first|refine E.then_ret ?_|refine E.in_ret ?_)))
      exact E.retR1 (G:=[]) rfl rfl ⟨rfl,hfs⟩ (by rw [List.append_nil])
    | false =>
      have he0:=errCreate_eq hm hn hh
      rw [if_neg (by decide),fsL_cons]
      unfold fsC
      by_cases h8:m.cur.streams.length=8
      · have he:errCreate m x=3:=by rw [he0,if_pos h8]
        rw [show createMM m x full=(m,3) by unfold createMM;rw [he,if_neg (by decide)]]
        repeat (first|((first|(apply Lq.s;rfl)|apply PRun.s|(apply Lq.run;rfl;rfl;rfl;exact bsB)|(apply PRun.run;rfl;rfl;exact bsB));first|(apply op_ocell;rfl;exact bsM;rfl)|(apply op_slen;rfl)|(exact bsO))|refine bsA ?_|(apply Lq.al;rfl;rfl;intro b)|(apply Open.cons;intro b)|refine bsC ?_)
        (refine J.ret ?_;(repeat (first|refine E.then_ret ?_|refine E.in_ret ?_)))
        exact E.retR1 (G:=[]) rfl rfl ⟨rfl,hfs⟩ (by rw [List.append_nil,fsL_cons];exact List.Perm.refl _)
      have he:errCreate m x=0:=by rw [he0,if_neg h8]
      repeat (first|((first|(apply Lq.s;rfl)|apply PRun.s|(apply Lq.run;rfl;rfl;rfl;exact bsB)|(apply PRun.run;rfl;rfl;exact bsB));first|(apply op_ocell;rfl;exact bsM;rfl)|(apply op_slen;rfl)|(exact bsO))|refine bsA ?_|(apply Lq.al;rfl;rfl;intro b)|(apply Open.cons;intro b)|refine bsC ?_)
      refine Lq.callS (Δ0:=[_]) (Δf:=dst A2 c2 xs2++dst A1 c1 xs1) (droom_fnR (m:=m) (A1:=A1) (n1:=xs1.length) (c1:=c1) (A2:=A2) (n2:=xs2.length) (c2:=c2) full htd) rfl bsD (List.Perm.refl _) ?_
      rintro _ _ ⟨rfl,rfl⟩
      by_cases hd:errDone m.todo full=0
      case neg =>
        rw [show createMM m x full=(m,errDone m.todo full) by unfold createMM;rw [if_pos he,if_neg hd]]
        rw [List.singleton_append, ← fsL_cons]
        generalize errDone m.todo full=er at *
        repeat (first|((first|(apply Lq.s;rfl)|apply PRun.s|(apply Lq.run;rfl;rfl;rfl;exact bsB)|(apply PRun.run;rfl;rfl;exact bsB));first|(exact bsO))|refine bsA ?_|(apply Lq.al;rfl;rfl;intro b)|(apply Open.cons;intro b)|refine bsC ?_)
        (refine J.ret ?_;(repeat (first|refine E.then_ret ?_|refine E.in_ret ?_)))
        exact E.retR1 (G:=[]) rfl rfl ⟨rfl,hfs⟩ (by rw [List.append_nil])
      rw [show createMM m x full=({ m with cur:=⟨m.cur.clock,m.cur.streams++[⟨x,0,[],[]⟩]⟩,todo:=m.todo+1 },0) by unfold createMM;rw [if_pos he,if_pos hd]]
      have hd200:=(done_ok hd).1
      rw [hd]
      unfold fsC
      repeat (first|((first|(apply Lq.s;rfl)|apply PRun.s|(apply Lq.run;rfl;rfl;rfl;exact bsB)|(apply PRun.run;rfl;rfl;exact bsB));first|(apply op_ocell;rfl;exact bsM;rfl)|(apply op_slen;rfl)|(apply op_add (c:=((m.todo+1:Nat):Int));rfl;rfl;(rw [show (m.todo:Int)+1=((m.todo+1:Nat):Int) by omega];apply wrapi <;> omega))|(exact bsO))|refine bsA ?_|(apply Lq.al;rfl;rfl;intro b)|(apply Open.cons;intro b)|refine bsC ?_)
      refine Lq.conv 49 rfl (ψ:=docO.val (newD x)) (agg_convM (newD_conv x)) ?_
      refine Lq.nilrow 73 recVT.toTy ?_
      refine Lq.nilrow 37 hashT.toTy ?_
      refine Lq.perm (Δ':=own W 91 [is (.bool m.fmt),is (.bool m.mnt),is (.slice A1 xs1.length c1),is (.slice A2 xs2.length c2),is (.int .i64 m.sure.clock),is (.int .i64 m.cur.clock),is (.int .i64 ((m.todo+1:Nat):Int))]::row (.slice A2 xs2.length c2) 95 docO.toTy xs2::(docR xs2++(docL xs2++(docR1 (newD x)::docL1 (newD x)::dst A1 c1 xs1)))) (by
        rw [docR1_new,docL1_new,dst_cons A2]
        simp only [List.cons_append,List.append_assoc,List.singleton_append]
        exact permP [[_],[_],[_],[_],docR xs2,docL xs2,dst A1 c1 xs1] [0,1,2,3,4,5,6] [2,3,4,5,1,0,6] (by decide)) ?_
      repeat (first|((first|(apply Lq.s;rfl)|apply PRun.s|(apply Lq.run;rfl;rfl;rfl;exact bsB)|(apply PRun.run;rfl;rfl;exact bsB));first|(apply op_bslice docO (xs:=[newD x]);(repeat (first|exact PO.nil _|(apply PO.cons;rfl)));rfl;rfl;rfl)|(exact bsO))|refine bsA ?_|(apply Lq.al;rfl;rfl;intro b)|(apply Open.cons;intro b)|refine bsC ?_)
      (apply Lq.append (T:=docO) (xs:=xs2) (ys:=[newD x]);rfl;exact List.Perm.swap _ _ _;(apply From.sl;rfl);rfl;rfl;rfl;(show _+1≤maxLen;unfold maxLen;omega);(show (_+1)*96≤_;omega))
      intro A3 c3
      repeat (first|((first|(apply Lq.s;rfl)|apply PRun.s|(apply Lq.run;rfl;rfl;rfl;exact bsB)|(apply PRun.run;rfl;rfl;exact bsB));first|(apply op_ocell;rfl;exact bsM;rfl)|(apply op_slen;rfl)|(exact bsO))|refine bsA ?_|(apply Lq.al;rfl;rfl;intro b)|(apply Open.cons;intro b)|refine bsC ?_)
      (refine J.ret ?_;(repeat (first|refine E.then_ret ?_|refine E.in_ret ?_)))
      refine E.retR1 (Δ':=fsL W { m with cur:=⟨m.cur.clock,m.cur.streams++[⟨x,0,[],[]⟩]⟩,todo:=m.todo+1 } A1 c1 xs1 A3 c3 (xs2++[newD x])) (G:=[]) rfl rfl ⟨rfl,A1,c1,xs1,A3,c3,xs2++[newD x],⟨hf.1,by show (xs2++[newD x]).map (·.1)=m.cur.streams++[_];rw [List.map_append,hf.2];rfl⟩,rfl⟩ ?_
      rw [List.append_nil,fsL_cons,dst_cons A3,docR_app,docL_app,docR_one,docL_one]
      simp only [List.cons_append,List.append_assoc,List.singleton_append]
      exact permP [[_],[_],docR xs2,docL xs2,[docR1 (newD x)],[docL1 (newD x)],dst A1 c1 xs1] [0,1,2,3,4,5,6] [0,1,2,4,3,5,6] (by decide)
end Go.Proofs.YtljbbajelkkafaaDoor.L
/-
  The document's side of a model: its steps,walked.
-/
namespace Go.Proofs.YtljbbajelkkafaaDoor.L
open Go
set_option linter.unusedSectionVars false
variable [Globs] [Has_sha_table] [Has_sha_begin]
set_option linter.unusedVariables false
def Rl (m w:MM):Prop:=w.fmt=m.fmt∧w.mnt=m.mnt∧w.sure=m.sure∧(m.mnt=true→w=m)
def fsR (W:Nat) (m:MM):VS:=fun Δ => ∃ w,Rl m w∧fsV W w Δ
def mountU (W:Nat) (A1:Option Addr) (n1 c1:Nat) (k:Int) (Δ:List Res):Prop := ∃ φs,own W 91 φs ∈ Δ∧φs[2]?=some (is (.slice A1 n1 c1))∧φs[4]?=some (is (.int .i64 k))
theorem Rl_refl (m:MM):Rl m m:=⟨rfl,rfl,rfl,fun _=>rfl⟩
theorem doM_turn {m:MM} {x:StepS} {full:Bool} (h:x.kind=1 ∨ x.kind=2 ∨ x.kind=3):doM m x full=flat0 (turnM m x.kind full):=by unfold doM;rw [if_pos h]
variable [Has_ref02_k]
set_option linter.unusedVariables false
set_option linter.unusedSimpArgs false
attribute [local irreducible] J Lq E OpP PRun is any agg tup ptr sl PRunW OpE
attribute [local irreducible] slt row leafH shaH docR docL OpR dst fsL
theorem dnew_fnR:FnR Tryd.prog 22 [] [] (fun ψ Δ => ∃ W,ψ=is (.pointer (some ⟨W,0,none⟩))∧fsR W newMM Δ):=by
  refine FnR.mk' 3 Tryd.func22 rfl rfl rfl rfl fun w0 H0=>?_
  refine J.nilrow 95 docO.toTy ?_
  refine J.nilrow 95 docO.toTy ?_
  repeat (first|((first|(apply Lq.s;rfl)|apply PRun.s|(apply Lq.run;rfl;rfl;rfl;exact bsB)|(apply PRun.run;rfl;rfl;exact bsB));first|(exact bsO))|refine bsA ?_|(apply Lq.al;rfl;rfl;intro b)|(apply Open.cons;intro b)|refine bsC ?_)
  refine Lq.box rfl rfl Seg.agg ?_
  intro fb
  repeat (first|((first|(apply Lq.s;rfl)|apply PRun.s|(apply Lq.run;rfl;rfl;rfl;exact bsB)|(apply PRun.run;rfl;rfl;exact bsB));first|(exact bsO))|refine bsA ?_|(apply Lq.al;rfl;rfl;intro b)|(apply Open.cons;intro b)|refine bsC ?_)
  (refine J.ret ?_;(repeat (first|refine E.then_ret ?_|refine E.in_ret ?_)))
  refine E.retR1 (Δ':=fsL fb newMM none 0 [] none 0 []) (G:=[]) rfl rfl ⟨fb,rfl,newMM,Rl_refl _,none,0,[],none,0,[],⟨rfl,rfl⟩,rfl⟩ ?_
  rw [List.append_nil,fsL_cons,dst_cons]
  rw [show docR ([]:List DO)=[] by unfold docR;rfl,show docL ([]:List DO)=[] by unfold docL;rfl]
  exact List.Perm.refl _
set_option maxRecDepth 100000 in
set_option maxHeartbeats 16000000 in
theorem dturn_fnR {W:Nat} {m:MM} (x:StepS) (full:Bool) (hk:MOk m) (hkk:x.kind=1 ∨ x.kind=2):FnV Tryd.prog 23 [is (.pointer (some ⟨W,0,none⟩)),stepT.val x,is (.bool full)] (fsR W m) (tup [is (.int .i64 (doM m x full).2.1),is (.int .i64 (doM m x full).2.2)]) (fsR W (doM m x full).1):=by
  intro Δ hV
  have hRv:=hV
  obtain ⟨w,⟨h1,h2,h3,h4⟩,A1,c1,xs1,A2,c2,xs2,hf,rfl⟩:=hV
  have hkw:StOk w.sure:=by rw [h3];exact hk.sure
  obtain ⟨hl1,hg1⟩:=fitsD_g (clock:=w.sure.clock) hf.1 hkw
  rw [doM_turn (by omega)]
  refine FnR.mk' 131 Tryd.func23 rfl rfl rfl rfl fun w0 H0=>?_
  rw [fsL_cons] at hRv ⊢
  unfold fsC at hRv ⊢
  rcases hkk with hkind|hkind
  · cases hm:m.mnt with
    | true =>
      rw [show turnM m x.kind full=(m,240) by unfold turnM errTurn;rw [hkind,hm];rfl]
      rw [h2,hm] at hRv ⊢
      repeat (first|((first|(apply Lq.s;rfl)|apply PRun.s|(apply Lq.run;rfl;rfl;rfl;exact bsB)|(apply PRun.run;rfl;rfl;exact bsB));first|(exact bsE)|(apply op_ocell;rfl;exact bsM;rfl)|(apply op_slen;rfl)|(exact bsO))|refine bsA ?_|(apply Lq.al;rfl;rfl;intro b)|(apply Open.cons;intro b)|refine bsC ?_)
      (refine J.ret ?_;(repeat (first|refine E.then_ret ?_|refine E.in_ret ?_)))
      exact E.retR2 (G:=[]) rfl rfl rfl ⟨rfl,hRv⟩ (by rw [List.append_nil])
    | false =>
      cases hfm:m.fmt with
      | true =>
        rw [show turnM m x.kind full=(m,160) by unfold turnM errTurn;rw [hkind,hm,hfm];rfl]
        rw [h1,h2,hm,hfm] at hRv ⊢
        repeat (first|((first|(apply Lq.s;rfl)|apply PRun.s|(apply Lq.run;rfl;rfl;rfl;exact bsB)|(apply PRun.run;rfl;rfl;exact bsB));first|(exact bsE)|(apply op_ocell;rfl;exact bsM;rfl)|(apply op_slen;rfl)|(exact bsO))|refine bsA ?_|(apply Lq.al;rfl;rfl;intro b)|(apply Open.cons;intro b)|refine bsC ?_)
        (refine J.ret ?_;(repeat (first|refine E.then_ret ?_|refine E.in_ret ?_)))
        exact E.retR2 (G:=[]) rfl rfl rfl ⟨rfl,hRv⟩ (by rw [List.append_nil])
      | false =>
        cases full with
        | true =>
          rw [show turnM m x.kind true=(m,241) by unfold turnM errTurn;rw [hkind,hm,hfm];rfl]
          rw [h1,h2,hm,hfm] at hRv ⊢
          repeat (first|((first|(apply Lq.s;rfl)|apply PRun.s|(apply Lq.run;rfl;rfl;rfl;exact bsB)|(apply PRun.run;rfl;rfl;exact bsB));first|(exact bsE)|(apply op_ocell;rfl;exact bsM;rfl)|(apply op_slen;rfl)|(exact bsO))|refine bsA ?_|(apply Lq.al;rfl;rfl;intro b)|(apply Open.cons;intro b)|refine bsC ?_)
          (refine J.ret ?_;(repeat (first|refine E.then_ret ?_|refine E.in_ret ?_)))
          exact E.retR2 (G:=[]) rfl rfl rfl ⟨rfl,hRv⟩ (by rw [List.append_nil])
        | false =>
          rw [show turnM m x.kind false=(⟨true,false,m.sure,m.sure,0⟩,0) by unfold turnM errTurn;rw [hkind,hm,hfm];rfl]
          rw [h1,h2,hm,hfm] at hRv ⊢
          repeat (first|((first|(apply Lq.s;rfl)|apply PRun.s|(apply Lq.run;rfl;rfl;rfl;exact bsB)|(apply PRun.run;rfl;rfl;exact bsB));first|(exact bsE)|(apply op_ocell;rfl;exact bsM;rfl)|(apply op_slen;rfl)|(exact bsO))|refine bsA ?_|(apply Lq.al;rfl;rfl;intro b)|(apply Open.cons;intro b)|refine bsC ?_)
          (refine J.ret ?_;(repeat (first|refine E.then_ret ?_|refine E.in_ret ?_)))
          exact E.retR2 (Δ':=fsL W ⟨true,false,w.sure,w.cur,w.todo⟩ A1 c1 xs1 A2 c2 xs2) (G:=[]) rfl rfl rfl ⟨rfl,⟨true,false,w.sure,w.cur,w.todo⟩,⟨rfl,rfl,h3,fun h=>by cases h⟩,A1,c1,xs1,A2,c2,xs2,hf,rfl⟩ (by rw [List.append_nil,fsL_cons];exact List.Perm.refl _)
  · cases hm:m.mnt with
    | true =>
      rw [show turnM m x.kind full=(m,240) by unfold turnM errTurn;rw [hkind,hm];rfl]
      rw [h2,hm] at hRv ⊢
      repeat (first|((first|(apply Lq.s;rfl)|apply PRun.s|(apply Lq.run;rfl;rfl;rfl;exact bsB)|(apply PRun.run;rfl;rfl;exact bsB));first|(exact bsE)|(apply op_ocell;rfl;exact bsM;rfl)|(apply op_slen;rfl)|(exact bsO))|refine bsA ?_|(apply Lq.al;rfl;rfl;intro b)|(apply Open.cons;intro b)|refine bsC ?_)
      (refine J.ret ?_;(repeat (first|refine E.then_ret ?_|refine E.in_ret ?_)))
      exact E.retR2 (G:=[]) rfl rfl rfl ⟨rfl,hRv⟩ (by rw [List.append_nil])
    | false =>
    cases hfm:m.fmt with
    | false =>
      rw [show turnM m x.kind full=(m,4) by unfold turnM errTurn;rw [hkind,hm,hfm];rfl]
      rw [h1,h2,hm,hfm] at hRv ⊢
      repeat (first|((first|(apply Lq.s;rfl)|apply PRun.s|(apply Lq.run;rfl;rfl;rfl;exact bsB)|(apply PRun.run;rfl;rfl;exact bsB));first|(exact bsE)|(apply op_ocell;rfl;exact bsM;rfl)|(apply op_slen;rfl)|(exact bsO))|refine bsA ?_|(apply Lq.al;rfl;rfl;intro b)|(apply Open.cons;intro b)|refine bsC ?_)
      (refine J.ret ?_;(repeat (first|refine E.then_ret ?_|refine E.in_ret ?_)))
      exact E.retR2 (G:=[]) rfl rfl rfl ⟨rfl,hRv⟩ (by rw [List.append_nil])
    | true =>
    rw [show turnM m x.kind full=(⟨true,true,m.sure,m.sure,0⟩,0) by unfold turnM errTurn;rw [hkind,hm,hfm];rfl]
    rw [h1,h2,hm,hfm] at hRv ⊢
    repeat (first|((first|(apply Lq.s;rfl)|apply PRun.s|(apply Lq.run;rfl;rfl;rfl;exact bsB)|(apply PRun.run;rfl;rfl;exact bsB));first|(exact bsE)|(apply op_ocell;rfl;exact bsM;rfl)|(apply op_slen;rfl)|(exact bsO))|refine bsA ?_|(apply Lq.al;rfl;rfl;intro b)|(apply Open.cons;intro b)|refine bsC ?_)
    refine J.drawU 25 [false,false,false,false,false,false,false,false,true,false,false,false,false,false,false,true,false,false,true,false,false,true,false,false,true] 45 (mountU W A1 xs1.length c1 w.sure.clock)
      (fun Δ u=>Δ=own W 91 [is (.bool true),is (.bool false),is (.slice A1 xs1.length c1),is (.slice A2 xs2.length c2),is (.int .i64 w.sure.clock),is (.int .i64 w.cur.clock),is (.int .i64 (w.todo:Int))]::(dst A2 c2 xs2++dst A1 c1 xs1)) (fun u=>rfl) ⟨_,List.mem_cons_self,rfl,rfl⟩ rfl mixed (by kernel_rfl) ?_
    refine PRunU.s rfl (fun Δ h=>op_move rfl) ?_
    refine PRunU.s rfl (fun Δ h=>op_move rfl) ?_
    refine PRunU.s rfl (fun Δ h=>op_move rfl) ?_
    refine PRunU.s rfl (fun Δ h=>op_move rfl) ?_
    refine PRunU.s rfl (fun Δ h=>op_move rfl) ?_
    refine PRunU.s rfl (fun Δ h=>op_nilCheck rfl) ?_
    refine PRunU.s rfl (fun Δ h=>op_ofaddr rfl (by decide)) ?_
    refine PRunU.s (φ:=is (.slice A1 xs1.length c1)) rfl (fun Δ h=>by
      obtain ⟨φs,hm,h1,h2⟩:=h
      exact op_ocell rfl hm h1) ?_
    refine PRunU.e (φ:=anySl xs1.length) (V1:=fun Δ u => ∃ A' c' ys,ys.map (·.1)=xs1.map (·.1)∧u = .slice A' ys.length c'∧Δ.Perm (own W 91 [is (.bool true),is (.bool false),is (.slice A1 xs1.length c1),is (.slice A2 xs2.length c2),is (.int .i64 w.sure.clock),is (.int .i64 w.cur.clock),is (.int .i64 (w.todo:Int))]::(dst A' c' ys++(dst A2 c2 xs2++dst A1 c1 xs1)))) ?ccall ?ucall ?_
    case ccall =>
      refine opU_call (Δ0:=dst A1 c1 xs1) (Δf:=own W 91 [is (.bool true),is (.bool false),is (.slice A1 xs1.length c1),is (.slice A2 xs2.length c2),is (.int .i64 w.sure.clock),is (.int .i64 w.cur.clock),is (.int .i64 (w.todo:Int))]::dst A2 c2 xs2) (dcopies_fnR A1 c1 xs1 hl1 hg1) ?_ ?_ ?_
      · exact bsD
      · intro Δ u h
        rw [h]
        exact permP [[_],dst A2 c2 xs2,dst A1 c1 xs1] [0,1,2] [2,0,1] (by decide)
      · rintro ψ Δ' ⟨A',c',ys,h1,rfl,rfl⟩ H v hv
        have hv:v = .slice A' ys.length c':=is_outM hv
        have hyl:ys.length=xs1.length:=by have:=congrArg List.length h1;rwa [List.length_map,List.length_map] at this
        refine ⟨⟨A',c',by rw [hv,hyl]⟩,A',c',ys,h1,hv,?_⟩
        rw [List.append_assoc]
        exact permP [dst A' c' ys,dst A1 c1 xs1,[_],dst A2 c2 xs2] [0,1,2,3] [2,0,3,1] (by decide)
    case ucall =>
      rintro Δ u ⟨A',c',ys,_,_,hp⟩
      exact ⟨[is (.bool true),is (.bool false),is (.slice A1 xs1.length c1),is (.slice A2 xs2.length c2),is (.int .i64 w.sure.clock),is (.int .i64 w.cur.clock),is (.int .i64 (w.todo:Int))],hp.mem_iff.2 List.mem_cons_self,rfl,rfl⟩
    refine PRunU.s rfl (fun Δ h=>op_move rfl) ?_
    refine PRunU.s rfl (fun Δ h=>op_nilCheck rfl) ?_
    refine PRunU.s rfl (fun Δ h=>op_ofaddr rfl (by decide)) ?_
    refine PRunU.s (φ:=is (.int .i64 w.sure.clock)) rfl (fun Δ h=>by
      obtain ⟨φs,hm,h1,h2⟩:=h
      exact op_ocell rfl hm h2) ?_
    refine PRunU.s rfl (fun Δ h=>op_nilCheck rfl) ?_
    refine PRunU.s rfl (fun Δ h=>op_ofaddr rfl (by decide)) ?_
    refine PRunU.e (φ:=is undef) (V1:=fun Δ u => ∃ A' c' ys,ys.map (·.1)=xs1.map (·.1)∧u = .slice A' ys.length c'∧Δ.Perm (own W 91 [is (.bool true),is (.bool true),is (.slice A1 xs1.length c1),is (.slice A2 xs2.length c2),is (.int .i64 w.sure.clock),is (.int .i64 w.cur.clock),is (.int .i64 (w.todo:Int))]::(dst A' c' ys++(dst A2 c2 xs2++dst A1 c1 xs1)))) ?stc2 ?stu2 ?_
    case stc2 =>
      refine opU_store (e := 91) (b:=W) (o:=1) (n:=1) rfl ?_
      rintro Δ u ⟨A',c',ys,h1,rfl,hp⟩
      exact ⟨_,_,[is (.bool true)],hp,rfl,Nat.le_of_ble_eq_true rfl, .inr ⟨_,rfl,Seg.is rfl⟩,A',c',ys,h1,rfl,List.Perm.refl _⟩
    case stu2 =>
      rintro Δ u ⟨A',c',ys,_,_,hp⟩
      exact ⟨[is (.bool true),is (.bool true),is (.slice A1 xs1.length c1),is (.slice A2 xs2.length c2),is (.int .i64 w.sure.clock),is (.int .i64 w.cur.clock),is (.int .i64 (w.todo:Int))],hp.mem_iff.2 List.mem_cons_self,rfl,rfl⟩
    refine PRunU.s rfl (fun Δ h=>op_nilCheck rfl) ?_
    refine PRunU.s rfl (fun Δ h=>op_ofaddr rfl (by decide)) ?_
    refine PRunU.e (φ:=is undef) (V1:=fun Δ u => ∃ A' c' ys,ys.map (·.1)=xs1.map (·.1)∧u = .slice A' ys.length c'∧Δ.Perm (own W 91 [is (.bool true),is (.bool true),is (.slice A1 xs1.length c1),is u,is (.int .i64 w.sure.clock),is (.int .i64 w.cur.clock),is (.int .i64 (w.todo:Int))]::(dst A' c' ys++(dst A2 c2 xs2++dst A1 c1 xs1)))) ?stc3 ?stu3 ?_
    case stc3 =>
      refine opU_store (e := 91) (b:=W) (o:=3) (n:=1) rfl ?_
      rintro Δ u ⟨A',c',ys,h1,rfl,hp⟩
      exact ⟨_,_,[is _],hp,rfl,Nat.le_of_ble_eq_true rfl, .inl ⟨rfl,Seg.is rfl⟩,A',c',ys,h1,rfl,List.Perm.refl _⟩
    case stu3 =>
      rintro Δ u ⟨A',c',ys,_,_,hp⟩
      exact ⟨[is (.bool true),is (.bool true),is (.slice A1 xs1.length c1),is u,is (.int .i64 w.sure.clock),is (.int .i64 w.cur.clock),is (.int .i64 (w.todo:Int))],hp.mem_iff.2 List.mem_cons_self,rfl,rfl⟩
    refine PRunU.s rfl (fun Δ h=>op_nilCheck rfl) ?_
    refine PRunU.s rfl (fun Δ h=>op_ofaddr rfl (by decide)) ?_
    refine PRunU.e (φ:=is undef) (V1:=fun Δ u => ∃ A' c' ys,ys.map (·.1)=xs1.map (·.1)∧u = .slice A' ys.length c'∧Δ.Perm (own W 91 [is (.bool true),is (.bool true),is (.slice A1 xs1.length c1),is u,is (.int .i64 w.sure.clock),is (.int .i64 w.sure.clock),is (.int .i64 (w.todo:Int))]::(dst A' c' ys++(dst A2 c2 xs2++dst A1 c1 xs1)))) ?stc4 ?stu4 ?_
    case stc4 =>
      refine opU_store (e := 91) (b:=W) (o:=5) (n:=1) rfl ?_
      rintro Δ u ⟨A',c',ys,h1,rfl,hp⟩
      exact ⟨_,_,[is (.int .i64 w.sure.clock)],hp,rfl,Nat.le_of_ble_eq_true rfl, .inr ⟨_,rfl,Seg.is rfl⟩,A',c',ys,h1,rfl,List.Perm.refl _⟩
    case stu4 =>
      rintro Δ u ⟨A',c',ys,_,_,hp⟩
      exact ⟨[is (.bool true),is (.bool true),is (.slice A1 xs1.length c1),is u,is (.int .i64 w.sure.clock),is (.int .i64 w.sure.clock),is (.int .i64 (w.todo:Int))],hp.mem_iff.2 List.mem_cons_self,rfl,rfl⟩
    refine PRunU.s rfl (fun Δ h=>op_nilCheck rfl) ?_
    refine PRunU.s rfl (fun Δ h=>op_ofaddr rfl (by decide)) ?_
    refine PRunU.e (φ:=is undef) (V1:=fun Δ u => ∃ A' c' ys,ys.map (·.1)=xs1.map (·.1)∧u = .slice A' ys.length c'∧Δ.Perm (own W 91 [is (.bool true),is (.bool true),is (.slice A1 xs1.length c1),is u,is (.int .i64 w.sure.clock),is (.int .i64 w.sure.clock),is (.int .i64 0)]::(dst A' c' ys++(dst A2 c2 xs2++dst A1 c1 xs1)))) ?stc5 ?stu5 ?_
    case stc5 =>
      refine opU_store (e := 91) (b:=W) (o:=6) (n:=1) rfl ?_
      rintro Δ u ⟨A',c',ys,h1,rfl,hp⟩
      exact ⟨_,_,[is (.int .i64 0)],hp,rfl,Nat.le_of_ble_eq_true rfl, .inr ⟨_,rfl,Seg.is rfl⟩,A',c',ys,h1,rfl,List.Perm.refl _⟩
    case stu5 =>
      rintro Δ u ⟨A',c',ys,_,_,hp⟩
      exact ⟨[is (.bool true),is (.bool true),is (.slice A1 xs1.length c1),is u,is (.int .i64 w.sure.clock),is (.int .i64 w.sure.clock),is (.int .i64 0)],hp.mem_iff.2 List.mem_cons_self,rfl,rfl⟩
    refine PRunU.nil ?_
    rintro Δ' u ⟨A',c',ys,h1,rfl,hp⟩
    refine Lq.perm hp ?_
    repeat (first|((first|(apply Lq.s;rfl)|apply PRun.s|(apply Lq.run;rfl;rfl;rfl;exact bsB)|(apply PRun.run;rfl;rfl;exact bsB));first|(exact bsO))|refine bsA ?_|(apply Lq.al;rfl;rfl;intro b)|(apply Open.cons;intro b)|refine bsC ?_)
    (refine J.ret ?_;(repeat (first|refine E.then_ret ?_|refine E.in_ret ?_)))
    exact E.retR2 (Δ':=fsL W ⟨true,true,w.sure,w.sure,0⟩ A1 c1 xs1 A' c' ys) (G:=dst A2 c2 xs2) rfl rfl rfl ⟨rfl,⟨true,true,w.sure,w.sure,0⟩,⟨rfl,rfl,h3,fun _=>by rw [h3];rfl⟩,A1,c1,xs1,A',c',ys,⟨hf.1,h1.trans hf.1⟩,rfl⟩ (by
      rw [fsL_cons,List.cons_append,List.append_assoc]
      exact permP [[_],dst A' c' ys,dst A2 c2 xs2,dst A1 c1 xs1] [0,1,2,3] [0,1,3,2] (by decide))
end Go.Proofs.YtljbbajelkkafaaDoor.L
/-
  The document's side of a model: Do,walked.
-/
namespace Go.Proofs.YtljbbajelkkafaaDoor.L
open Go
set_option linter.unusedSectionVars false
variable [Globs] [Has_sha_table] [Has_sha_begin]
set_option linter.unusedVariables false
theorem doM_out {m:MM} {x:StepS} {full:Bool} (h:x.kind < 1 ∨ 11 < x.kind):doM m x full=(m,0,2):=by
  unfold doM
  rw [if_neg (by omega),if_neg (by omega),if_neg (by omega),if_neg (by omega),if_neg (by omega)]
theorem doM_4 {m:MM} {x:StepS} {full:Bool} (h:x.kind=4):doM m x full=flat0 (createMM m x.name full):=by
  unfold doM
  rw [if_neg (by omega),if_pos h]
theorem doM_6 {m:MM} {x:StepS} {full:Bool} (h:x.kind=6):doM m x full=flat0 (syncM m full):=by
  unfold doM
  rw [if_neg (by omega),if_neg (by omega),if_pos h]
theorem doM_11 {m:MM} {x:StepS} {full:Bool} (h:x.kind=11):doM m x full=flat0 (tickMM m x.n):=by
  unfold doM
  rw [if_neg (by omega),if_neg (by omega),if_neg (by omega),if_pos h]
theorem doM_of {m:MM} {x:StepS} {full:Bool} (h:x.kind=5 ∨ x.kind=7 ∨ x.kind=8 ∨ x.kind=9 ∨ x.kind=10):doM m x full=ofM m x full:=by
  unfold doM
  rw [if_neg (by omega),if_neg (by omega),if_neg (by omega),if_neg (by omega),if_pos h]
theorem doM_un {m:MM} {x:StepS} {full:Bool} (hm:m.mnt=false) (h:3≤x.kind∧x.kind≤11):doM m x full=(m,0,240):=by
  by_cases h3:x.kind=3
  · rw [doM_turn (by omega),show turnM m x.kind full=(m,240) by unfold turnM errTurn;rw [h3,hm];rfl];rfl
  by_cases h4:x.kind=4
  · have he:errCreate m x.name=240:=by unfold errCreate;rw [hm];rfl
    rw [doM_4 h4,show createMM m x.name full=(m,240) by unfold createMM;rw [he,if_neg (by decide)]];rfl
  by_cases h6:x.kind=6
  · rw [doM_6 h6,show syncM m full=(m,240) by unfold syncM;rw [hm];rfl];rfl
  by_cases h11:x.kind=11
  · rw [doM_11 h11,show tickMM m x.n=(m,240) by unfold tickMM;rw [hm];rfl];rfl
  rw [doM_of (by omega),ofM_err (by rw [errFind_m hm];decide),errFind_m hm]
variable [Has_ref02_k]
set_option linter.unusedVariables false
set_option linter.unusedSimpArgs false
attribute [local irreducible] J Lq E OpP PRun is any agg tup ptr sl PRunW OpE
attribute [local irreducible] slt row leafH shaH docR docL OpR dst fsL
set_option maxRecDepth 100000 in
set_option maxHeartbeats 16000000 in
theorem ddoV {W:Nat} {m:MM} (x:StepS) (full:Bool) (hk:MOk m) (hx:x.text.length≤400) (hn:x.name.length≤400):FnV Tryd.prog 23 [is (.pointer (some ⟨W,0,none⟩)),stepT.val x,is (.bool full)] (fsR W m) (tup [is (.int .i64 (doM m x full).2.1),is (.int .i64 (doM m x full).2.2)]) (fsR W (doM m x full).1):=by
  by_cases h12:x.kind=1 ∨ x.kind=2
  · exact dturn_fnR x full hk h12
  intro Δ hV
  have hRv:=hV
  obtain ⟨w,⟨h1,h2,h3,h4⟩,A1,c1,xs1,A2,c2,xs2,hf,rfl⟩:=hV
  have hfs:fsV W w (fsL W w A1 c1 xs1 A2 c2 xs2):=⟨A1,c1,xs1,A2,c2,xs2,hf,rfl⟩
  refine FnR.mk' 131 Tryd.func23 rfl rfl rfl rfl fun w0 H0=>?_
  rw [fsL_cons] at hRv hfs ⊢
  unfold fsC at hRv hfs ⊢
  by_cases hout:x.kind < 1 ∨ 11 < x.kind
  · rw [doM_out hout]
    by_cases hlo:x.kind < 1
    · repeat (first|((first|(apply Lq.s;rfl)|apply PRun.s|(apply Lq.run;rfl;rfl;rfl;exact bsB)|(apply PRun.run;rfl;rfl;exact bsB));first|(exact bsE)|(apply op_ocell;rfl;exact bsM;rfl)|(apply op_slen;rfl)|(exact bsO))|refine bsA ?_|(apply Lq.al;rfl;rfl;intro b)|(apply Open.cons;intro b)|refine bsC ?_)
      (refine J.ret ?_;(repeat (first|refine E.then_ret ?_|refine E.in_ret ?_)))
      exact E.retR2 (G:=[]) rfl rfl rfl ⟨rfl,hRv⟩ (by rw [List.append_nil])
    · repeat (first|((first|(apply Lq.s;rfl)|apply PRun.s|(apply Lq.run;rfl;rfl;rfl;exact bsB)|(apply PRun.run;rfl;rfl;exact bsB));first|(exact bsE)|(apply op_ocell;rfl;exact bsM;rfl)|(apply op_slen;rfl)|(exact bsO))|refine bsA ?_|(apply Lq.al;rfl;rfl;intro b)|(apply Open.cons;intro b)|refine bsC ?_)
      (refine J.ret ?_;(repeat (first|refine E.then_ret ?_|refine E.in_ret ?_)))
      exact E.retR2 (G:=[]) rfl rfl rfl ⟨rfl,hRv⟩ (by rw [List.append_nil])
  cases hm:m.mnt with
  | false =>
    rw [doM_un hm (by omega)]
    rw [h2,hm] at hRv ⊢
    repeat (first|((first|(apply Lq.s;rfl)|apply PRun.s|(apply Lq.run;rfl;rfl;rfl;exact bsB)|(apply PRun.run;rfl;rfl;exact bsB));first|(exact bsE)|(apply op_ocell;rfl;exact bsM;rfl)|(apply op_slen;rfl)|(exact bsO))|refine bsA ?_|(apply Lq.al;rfl;rfl;intro b)|(apply Open.cons;intro b)|refine bsC ?_)
    (refine J.ret ?_;(repeat (first|refine E.then_ret ?_|refine E.in_ret ?_)))
    exact E.retR2 (G:=[]) rfl rfl rfl ⟨rfl,hRv⟩ (by rw [List.append_nil])
  | true =>
    obtain rfl:w=m:=h4 hm
    clear h1 h2 h3 h4
    have hE:[is (.bool w.fmt),is (.bool w.mnt),is (.slice A1 xs1.length c1),is (.slice A2 xs2.length c2),is (.int .i64 w.sure.clock),is (.int .i64 w.cur.clock),is (.int .i64 (w.todo:Int))]=[is (.bool w.fmt),is (.bool true),is (.slice A1 xs1.length c1),is (.slice A2 xs2.length c2),is (.int .i64 w.sure.clock),is (.int .i64 w.cur.clock),is (.int .i64 (w.todo:Int))]:=by rw [hm]
    rw [hE] at hRv hfs ⊢
    by_cases k3:x.kind=3
    · rw [doM_turn (by omega),show turnM w x.kind full=(⟨w.fmt || false,false,w.sure,w.sure,0⟩,0) by unfold turnM errTurn;rw [k3,hm];rfl]
      repeat (first|((first|(apply Lq.s;rfl)|apply PRun.s|(apply Lq.run;rfl;rfl;rfl;exact bsB)|(apply PRun.run;rfl;rfl;exact bsB));first|(exact bsE)|(apply op_ocell;rfl;exact bsM;rfl)|(apply op_slen;rfl)|(exact bsO))|refine bsA ?_|(apply Lq.al;rfl;rfl;intro b)|(apply Open.cons;intro b)|refine bsC ?_)
      (refine J.ret ?_;(repeat (first|refine E.then_ret ?_|refine E.in_ret ?_)))
      exact E.retR2 (Δ':=fsL W ⟨w.fmt,false,w.sure,w.cur,w.todo⟩ A1 c1 xs1 A2 c2 xs2) (G:=[]) rfl rfl rfl ⟨rfl,⟨w.fmt,false,w.sure,w.cur,w.todo⟩,⟨(Bool.or_false _).symm,rfl,rfl,fun h=>by cases h⟩,A1,c1,xs1,A2,c2,xs2,hf,rfl⟩ (by rw [List.append_nil,fsL_cons];exact List.Perm.refl _)
    by_cases k4:x.kind=4
    · rw [doM_4 k4]
      have hc:=dcreateV (W:=W) x.name full hk hm (by unfold maxLen;omega) (fsL W w A1 c1 xs1 A2 c2 xs2) ⟨A1,c1,xs1,A2,c2,xs2,hf,rfl⟩
      generalize createMM w x.name full=q at *
      repeat (first|((first|(apply Lq.s;rfl)|apply PRun.s|(apply Lq.run;rfl;rfl;rfl;exact bsB)|(apply PRun.run;rfl;rfl;exact bsB));first|(exact bsE)|(apply op_ocell;rfl;exact bsM;rfl)|(apply op_slen;rfl)|(exact bsO))|refine bsA ?_|(apply Lq.al;rfl;rfl;intro b)|(apply Open.cons;intro b)|refine bsC ?_)
      refine Lq.callS (Δ0:=fsL W w A1 c1 xs1 A2 c2 xs2) (Δf:=[]) hc rfl bsD (by rw [List.append_nil,fsL_cons];unfold fsC;rw [hm]) ?_
      rintro _ D2 ⟨rfl,hV2⟩
      rw [List.append_nil]
      repeat (first|((first|(apply Lq.s;rfl)|apply PRun.s|(apply Lq.run;rfl;rfl;rfl;exact bsB)|(apply PRun.run;rfl;rfl;exact bsB));first|(exact bsO))|refine bsA ?_|(apply Lq.al;rfl;rfl;intro b)|(apply Open.cons;intro b)|refine bsC ?_)
      (refine J.ret ?_;(repeat (first|refine E.then_ret ?_|refine E.in_ret ?_)))
      exact E.retR2 (G:=[]) rfl rfl rfl ⟨rfl,_,Rl_refl _,hV2⟩ (by rw [List.append_nil])
    by_cases k11:x.kind=11
    · rw [doM_11 k11]
      have htf:=rtick_fn w.cur.clock x.n
      by_cases ht:(tickM w.cur.clock x.n).2=0
      · rw [show tickMM w x.n=({ w with cur:=⟨(tickM w.cur.clock x.n).1,w.cur.streams⟩ },0) by unfold tickMM;rw [hm,if_pos rfl,if_pos ht]]
        rw [ht] at htf
        generalize (tickM w.cur.clock x.n).1=tk at *
        repeat (first|((first|(apply Lq.s;rfl)|apply PRun.s|(apply Lq.run;rfl;rfl;rfl;exact bsB)|(apply PRun.run;rfl;rfl;exact bsB));first|(exact bsE)|(apply op_ocell;rfl;exact bsM;rfl)|(apply op_slen;rfl)|(apply op_call htf;exact bsD)|(exact bsO))|refine bsA ?_|(apply Lq.al;rfl;rfl;intro b)|(apply Open.cons;intro b)|(apply J.drawN;exact mixed;kernel_rfl)|refine bsC ?_)
        (refine J.ret ?_;(repeat (first|refine E.then_ret ?_|refine E.in_ret ?_)))
        exact E.retR2 (Δ':=fsL W { w with cur:=⟨tk,w.cur.streams⟩ } A1 c1 xs1 A2 c2 xs2) (G:=[]) rfl rfl rfl ⟨rfl,{ w with cur:=⟨tk,w.cur.streams⟩ },Rl_refl _,A1,c1,xs1,A2,c2,xs2,hf,rfl⟩ (by rw [List.append_nil,fsL_cons];unfold fsC;rw [show ({ w with cur:=⟨tk,w.cur.streams⟩ }:MM).mnt=true from hm];exact List.Perm.refl _)
      · rw [show tickMM w x.n=(w,(tickM w.cur.clock x.n).2) by unfold tickMM;rw [hm,if_pos rfl,if_neg ht]]
        generalize (tickM w.cur.clock x.n).2=te at *
        repeat (first|((first|(apply Lq.s;rfl)|apply PRun.s|(apply Lq.run;rfl;rfl;rfl;exact bsB)|(apply PRun.run;rfl;rfl;exact bsB));first|(exact bsE)|(apply op_ocell;rfl;exact bsM;rfl)|(apply op_slen;rfl)|(apply op_call htf;exact bsD)|(exact bsO))|refine bsA ?_|(apply Lq.al;rfl;rfl;intro b)|(apply Open.cons;intro b)|(apply J.drawN;exact mixed;kernel_rfl)|refine bsC ?_)
        (refine J.ret ?_;(repeat (first|refine E.then_ret ?_|refine E.in_ret ?_)))
        exact E.retR2 (G:=[]) rfl rfl rfl ⟨rfl,hRv⟩ (by rw [List.append_nil])
    by_cases k6:x.kind=6
    · rw [doM_6 k6]
      by_cases hz:w.todo=0∧w.cur.clock=w.sure.clock
      · rw [show syncM w full=(w,0) by unfold syncM;rw [hm,if_pos rfl,if_pos hz]]
        obtain ⟨hz1,hz2⟩:=hz
        repeat (first|((first|(apply Lq.s;rfl)|apply PRun.s|(apply Lq.run;rfl;rfl;rfl;exact bsB)|(apply PRun.run;rfl;rfl;exact bsB));first|(exact bsE)|(apply op_ocell;rfl;exact bsM;rfl)|(apply op_slen;rfl)|(exact bsO))|refine bsA ?_|(apply Lq.al;rfl;rfl;intro b)|(apply Open.cons;intro b)|refine bsC ?_)
        refine J.drawW 16 [(none,none),(none,none),(none,none),(none,none),(none,none),(none,none),(none,none),(none,none),(none,none),(none,none),(none,none),(none,none),(none,none),(none,none),(none,none),(none,none)] mixed (by kernel_rfl) ?_
        repeat (first|((first|apply PRunW.s|(apply PRunW.run;rfl;rfl;exact bsB)|(apply Lq.s;rfl)|apply PRun.s|(apply Lq.run;rfl;rfl;rfl;exact bsB)|(apply PRun.run;rfl;rfl;exact bsB));first|(exact bsE)|(apply op_ocell;rfl;exact bsM;rfl)|(apply op_slen;rfl)|(exact bsO))|refine bsA ?_|(apply Lq.al;rfl;rfl;intro b)|(apply Open.cons;intro b)|refine bsC ?_|apply PRunW.nil|(apply PRunW.al;rfl)|(apply PRunW.pass;rfl;rfl)|(apply PRunW.skip;rfl;rfl;exact bsB)|(apply Open.pv;intro b)|apply Open.av|(apply Open.rv;intro A c))
        (refine J.ret ?_;(repeat (first|refine E.then_ret ?_|refine E.in_ret ?_)))
        exact E.retR2 (G:=[]) rfl rfl rfl ⟨rfl,hRv⟩ (by rw [List.append_nil])
      have hc:syncM w full=if full then (w,241) else (sealM w,0):=by unfold syncM;rw [hm,if_pos rfl,if_neg hz]
      rw [hc]
      obtain ⟨hl2,hg2⟩:=fitsD_g (clock:=w.cur.clock) hf.2 hk.cur
      have hsl:=dseal_fnR (W:=W) (A1:=A1) (c1:=c1) (A2:=A2) (c2:=c2) hf hl2 hg2
      by_cases hz1:w.todo=0
      · have hz2 : ¬ w.cur.clock=w.sure.clock:=fun e=>hz ⟨hz1,e⟩
        cases full with
        | true =>
          rw [if_pos rfl]
          repeat (first|((first|(apply Lq.s;rfl)|apply PRun.s|(apply Lq.run;rfl;rfl;rfl;exact bsB)|(apply PRun.run;rfl;rfl;exact bsB));first|(exact bsE)|(apply op_ocell;rfl;exact bsM;rfl)|(apply op_slen;rfl)|(exact bsO))|refine bsA ?_|(apply Lq.al;rfl;rfl;intro b)|(apply Open.cons;intro b)|refine bsC ?_)
          refine J.drawW 16 [(none,none),(none,none),(none,none),(none,none),(none,none),(none,none),(none,none),(none,none),(none,none),(none,none),(none,none),(none,none),(none,none),(none,none),(none,none),(none,none)] mixed (by kernel_rfl) ?_
          repeat (first|((first|apply PRunW.s|(apply PRunW.run;rfl;rfl;exact bsB)|(apply Lq.s;rfl)|apply PRun.s|(apply Lq.run;rfl;rfl;rfl;exact bsB)|(apply PRun.run;rfl;rfl;exact bsB));first|(exact bsE)|(apply op_ocell;rfl;exact bsM;rfl)|(apply op_slen;rfl)|(exact bsO))|refine bsA ?_|(apply Lq.al;rfl;rfl;intro b)|(apply Open.cons;intro b)|refine bsC ?_|apply PRunW.nil|(apply PRunW.al;rfl)|(apply PRunW.pass;rfl;rfl)|(apply PRunW.skip;rfl;rfl;exact bsB)|(apply Open.pv;intro b)|apply Open.av|(apply Open.rv;intro A c))
          (refine J.ret ?_;(repeat (first|refine E.then_ret ?_|refine E.in_ret ?_)))
          exact E.retR2 (G:=[]) rfl rfl rfl ⟨rfl,hRv⟩ (by rw [List.append_nil])
        | false =>
          rw [if_neg (by decide)]
          repeat (first|((first|(apply Lq.s;rfl)|apply PRun.s|(apply Lq.run;rfl;rfl;rfl;exact bsB)|(apply PRun.run;rfl;rfl;exact bsB));first|(exact bsE)|(apply op_ocell;rfl;exact bsM;rfl)|(apply op_slen;rfl)|(exact bsO))|refine bsA ?_|(apply Lq.al;rfl;rfl;intro b)|(apply Open.cons;intro b)|refine bsC ?_)
          refine J.drawW 16 [(none,none),(none,none),(none,none),(none,none),(none,none),(none,none),(none,none),(none,none),(none,none),(none,none),(none,none),(none,none),(none,none),(none,none),(none,none),(none,none)] mixed (by kernel_rfl) ?_
          repeat (first|((first|apply PRunW.s|(apply PRunW.run;rfl;rfl;exact bsB)|(apply Lq.s;rfl)|apply PRun.s|(apply Lq.run;rfl;rfl;rfl;exact bsB)|(apply PRun.run;rfl;rfl;exact bsB));first|(exact bsE)|(apply op_ocell;rfl;exact bsM;rfl)|(apply op_slen;rfl)|(exact bsO))|refine bsA ?_|(apply Lq.al;rfl;rfl;intro b)|(apply Open.cons;intro b)|refine bsC ?_|apply PRunW.nil|(apply PRunW.al;rfl)|(apply PRunW.pass;rfl;rfl)|(apply PRunW.skip;rfl;rfl;exact bsB)|(apply Open.pv;intro b)|apply Open.av|(apply Open.rv;intro A c))
          refine Lq.callS (Δ0:=fsL W w A1 c1 xs1 A2 c2 xs2) (Δf:=[]) hsl rfl bsD (by rw [List.append_nil,fsL_cons];unfold fsC;rw [hm]) ?_
          rintro _ D2 hV2
          rw [List.append_nil]
          repeat (first|((first|(apply Lq.s;rfl)|apply PRun.s|(apply Lq.run;rfl;rfl;rfl;exact bsB)|(apply PRun.run;rfl;rfl;exact bsB));first|(exact bsO))|refine bsA ?_|(apply Lq.al;rfl;rfl;intro b)|(apply Open.cons;intro b)|refine bsC ?_)
          (refine J.ret ?_;(repeat (first|refine E.then_ret ?_|refine E.in_ret ?_)))
          exact E.retR2 (G:=[]) rfl rfl rfl ⟨rfl,_,Rl_refl _,hV2⟩ (by rw [List.append_nil])
      · skip
        cases full with
        | true =>
          rw [if_pos rfl]
          repeat (first|((first|(apply Lq.s;rfl)|apply PRun.s|(apply Lq.run;rfl;rfl;rfl;exact bsB)|(apply PRun.run;rfl;rfl;exact bsB));first|(exact bsE)|(apply op_ocell;rfl;exact bsM;rfl)|(apply op_slen;rfl)|(exact bsO))|refine bsA ?_|(apply Lq.al;rfl;rfl;intro b)|(apply Open.cons;intro b)|refine bsC ?_)
          refine J.drawW 16 [(none,none),(none,none),(none,none),(none,none),(none,none),(none,none),(none,none),(none,none),(none,none),(none,none),(none,none),(none,none),(none,none),(none,none),(none,none),(none,none)] mixed (by kernel_rfl) ?_
          repeat (first|((first|apply PRunW.s|(apply PRunW.run;rfl;rfl;exact bsB)|(apply Lq.s;rfl)|apply PRun.s|(apply Lq.run;rfl;rfl;rfl;exact bsB)|(apply PRun.run;rfl;rfl;exact bsB));first|(exact bsE)|(apply op_ocell;rfl;exact bsM;rfl)|(apply op_slen;rfl)|(exact bsO))|refine bsA ?_|(apply Lq.al;rfl;rfl;intro b)|(apply Open.cons;intro b)|refine bsC ?_|apply PRunW.nil|(apply PRunW.al;rfl)|(apply PRunW.pass;rfl;rfl)|(apply PRunW.skip;rfl;rfl;exact bsB)|(apply Open.pv;intro b)|apply Open.av|(apply Open.rv;intro A c))
          (refine J.ret ?_;(repeat (first|refine E.then_ret ?_|refine E.in_ret ?_)))
          exact E.retR2 (G:=[]) rfl rfl rfl ⟨rfl,hRv⟩ (by rw [List.append_nil])
        | false =>
          rw [if_neg (by decide)]
          repeat (first|((first|(apply Lq.s;rfl)|apply PRun.s|(apply Lq.run;rfl;rfl;rfl;exact bsB)|(apply PRun.run;rfl;rfl;exact bsB));first|(exact bsE)|(apply op_ocell;rfl;exact bsM;rfl)|(apply op_slen;rfl)|(exact bsO))|refine bsA ?_|(apply Lq.al;rfl;rfl;intro b)|(apply Open.cons;intro b)|refine bsC ?_)
          refine J.drawW 16 [(none,none),(none,none),(none,none),(none,none),(none,none),(none,none),(none,none),(none,none),(none,none),(none,none),(none,none),(none,none),(none,none),(none,none),(none,none),(none,none)] mixed (by kernel_rfl) ?_
          repeat (first|((first|apply PRunW.s|(apply PRunW.run;rfl;rfl;exact bsB)|(apply Lq.s;rfl)|apply PRun.s|(apply Lq.run;rfl;rfl;rfl;exact bsB)|(apply PRun.run;rfl;rfl;exact bsB));first|(exact bsE)|(apply op_ocell;rfl;exact bsM;rfl)|(apply op_slen;rfl)|(exact bsO))|refine bsA ?_|(apply Lq.al;rfl;rfl;intro b)|(apply Open.cons;intro b)|refine bsC ?_|apply PRunW.nil|(apply PRunW.al;rfl)|(apply PRunW.pass;rfl;rfl)|(apply PRunW.skip;rfl;rfl;exact bsB)|(apply Open.pv;intro b)|apply Open.av|(apply Open.rv;intro A c))
          refine Lq.callS (Δ0:=fsL W w A1 c1 xs1 A2 c2 xs2) (Δf:=[]) hsl rfl bsD (by rw [List.append_nil,fsL_cons];unfold fsC;rw [hm]) ?_
          rintro _ D2 hV2
          rw [List.append_nil]
          repeat (first|((first|(apply Lq.s;rfl)|apply PRun.s|(apply Lq.run;rfl;rfl;rfl;exact bsB)|(apply PRun.run;rfl;rfl;exact bsB));first|(exact bsO))|refine bsA ?_|(apply Lq.al;rfl;rfl;intro b)|(apply Open.cons;intro b)|refine bsC ?_)
          (refine J.ret ?_;(repeat (first|refine E.then_ret ?_|refine E.in_ret ?_)))
          exact E.retR2 (G:=[]) rfl rfl rfl ⟨rfl,_,Rl_refl _,hV2⟩ (by rw [List.append_nil])
    have hkk:x.kind=5 ∨ x.kind=7 ∨ x.kind=8 ∨ x.kind=9 ∨ x.kind=10:=by omega
    rw [doM_of hkk]
    rcases hkk with hkind|hkind|hkind|hkind|hkind
    · have hc:=dof5_fnR (W:=W) (A1:=A1) (c1:=c1) (A2:=A2) (c2:=c2) x full hf hk hm hkind hx
      generalize ofM w x full=q at *
      repeat (first|((first|(apply Lq.s;rfl)|apply PRun.s|(apply Lq.run;rfl;rfl;rfl;exact bsB)|(apply PRun.run;rfl;rfl;exact bsB));first|(exact bsE)|(apply op_ocell;rfl;exact bsM;rfl)|(apply op_slen;rfl)|(exact bsO))|refine bsA ?_|(apply Lq.al;rfl;rfl;intro b)|(apply Open.cons;intro b)|refine bsC ?_)
      refine Lq.callS (Δ0:=fsL W w A1 c1 xs1 A2 c2 xs2) (Δf:=[]) hc rfl bsD (by rw [List.append_nil,fsL_cons];unfold fsC;rw [hm]) ?_
      rintro _ D2 ⟨rfl,hV2⟩
      rw [List.append_nil]
      repeat (first|((first|(apply Lq.s;rfl)|apply PRun.s|(apply Lq.run;rfl;rfl;rfl;exact bsB)|(apply PRun.run;rfl;rfl;exact bsB));first|(exact bsO))|refine bsA ?_|(apply Lq.al;rfl;rfl;intro b)|(apply Open.cons;intro b)|refine bsC ?_)
      (refine J.ret ?_;(repeat (first|refine E.then_ret ?_|refine E.in_ret ?_)))
      exact E.retR2 (G:=[]) rfl rfl rfl ⟨rfl,_,Rl_refl _,hV2⟩ (by rw [List.append_nil])
    · have hc:=dof7_fnR (W:=W) (A1:=A1) (c1:=c1) (A2:=A2) (c2:=c2) x full hf hk hm hkind hx
      generalize ofM w x full=q at *
      repeat (first|((first|(apply Lq.s;rfl)|apply PRun.s|(apply Lq.run;rfl;rfl;rfl;exact bsB)|(apply PRun.run;rfl;rfl;exact bsB));first|(exact bsE)|(apply op_ocell;rfl;exact bsM;rfl)|(apply op_slen;rfl)|(exact bsO))|refine bsA ?_|(apply Lq.al;rfl;rfl;intro b)|(apply Open.cons;intro b)|refine bsC ?_)
      refine Lq.callS (Δ0:=fsL W w A1 c1 xs1 A2 c2 xs2) (Δf:=[]) hc rfl bsD (by rw [List.append_nil,fsL_cons];unfold fsC;rw [hm]) ?_
      rintro _ D2 ⟨rfl,hV2⟩
      rw [List.append_nil]
      repeat (first|((first|(apply Lq.s;rfl)|apply PRun.s|(apply Lq.run;rfl;rfl;rfl;exact bsB)|(apply PRun.run;rfl;rfl;exact bsB));first|(exact bsO))|refine bsA ?_|(apply Lq.al;rfl;rfl;intro b)|(apply Open.cons;intro b)|refine bsC ?_)
      (refine J.ret ?_;(repeat (first|refine E.then_ret ?_|refine E.in_ret ?_)))
      exact E.retR2 (G:=[]) rfl rfl rfl ⟨rfl,_,Rl_refl _,hV2⟩ (by rw [List.append_nil])
    · have hc:=dof8_fnR (W:=W) (A1:=A1) (c1:=c1) (A2:=A2) (c2:=c2) x full hf hk hm hkind hx
      generalize ofM w x full=q at *
      repeat (first|((first|(apply Lq.s;rfl)|apply PRun.s|(apply Lq.run;rfl;rfl;rfl;exact bsB)|(apply PRun.run;rfl;rfl;exact bsB));first|(exact bsE)|(apply op_ocell;rfl;exact bsM;rfl)|(apply op_slen;rfl)|(exact bsO))|refine bsA ?_|(apply Lq.al;rfl;rfl;intro b)|(apply Open.cons;intro b)|refine bsC ?_)
      refine Lq.callS (Δ0:=fsL W w A1 c1 xs1 A2 c2 xs2) (Δf:=[]) hc rfl bsD (by rw [List.append_nil,fsL_cons];unfold fsC;rw [hm]) ?_
      rintro _ D2 ⟨rfl,hV2⟩
      rw [List.append_nil]
      repeat (first|((first|(apply Lq.s;rfl)|apply PRun.s|(apply Lq.run;rfl;rfl;rfl;exact bsB)|(apply PRun.run;rfl;rfl;exact bsB));first|(exact bsO))|refine bsA ?_|(apply Lq.al;rfl;rfl;intro b)|(apply Open.cons;intro b)|refine bsC ?_)
      (refine J.ret ?_;(repeat (first|refine E.then_ret ?_|refine E.in_ret ?_)))
      exact E.retR2 (G:=[]) rfl rfl rfl ⟨rfl,_,Rl_refl _,hV2⟩ (by rw [List.append_nil])
    · have hc:=dof9_fnR (W:=W) (A1:=A1) (c1:=c1) (A2:=A2) (c2:=c2) x full hf hk hm hkind hx
      generalize ofM w x full=q at *
      repeat (first|((first|(apply Lq.s;rfl)|apply PRun.s|(apply Lq.run;rfl;rfl;rfl;exact bsB)|(apply PRun.run;rfl;rfl;exact bsB));first|(exact bsE)|(apply op_ocell;rfl;exact bsM;rfl)|(apply op_slen;rfl)|(exact bsO))|refine bsA ?_|(apply Lq.al;rfl;rfl;intro b)|(apply Open.cons;intro b)|refine bsC ?_)
      refine Lq.callS (Δ0:=fsL W w A1 c1 xs1 A2 c2 xs2) (Δf:=[]) hc rfl bsD (by rw [List.append_nil,fsL_cons];unfold fsC;rw [hm]) ?_
      rintro _ D2 ⟨rfl,hV2⟩
      rw [List.append_nil]
      repeat (first|((first|(apply Lq.s;rfl)|apply PRun.s|(apply Lq.run;rfl;rfl;rfl;exact bsB)|(apply PRun.run;rfl;rfl;exact bsB));first|(exact bsO))|refine bsA ?_|(apply Lq.al;rfl;rfl;intro b)|(apply Open.cons;intro b)|refine bsC ?_)
      (refine J.ret ?_;(repeat (first|refine E.then_ret ?_|refine E.in_ret ?_)))
      exact E.retR2 (G:=[]) rfl rfl rfl ⟨rfl,_,Rl_refl _,hV2⟩ (by rw [List.append_nil])
    · have hc:=dof10_fnR (W:=W) (A1:=A1) (c1:=c1) (A2:=A2) (c2:=c2) x full hf hk hm hkind hx
      generalize ofM w x full=q at *
      repeat (first|((first|(apply Lq.s;rfl)|apply PRun.s|(apply Lq.run;rfl;rfl;rfl;exact bsB)|(apply PRun.run;rfl;rfl;exact bsB));first|(exact bsE)|(apply op_ocell;rfl;exact bsM;rfl)|(apply op_slen;rfl)|(exact bsO))|refine bsA ?_|(apply Lq.al;rfl;rfl;intro b)|(apply Open.cons;intro b)|refine bsC ?_)
      refine Lq.callS (Δ0:=fsL W w A1 c1 xs1 A2 c2 xs2) (Δf:=[]) hc rfl bsD (by rw [List.append_nil,fsL_cons];unfold fsC;rw [hm]) ?_
      rintro _ D2 ⟨rfl,hV2⟩
      rw [List.append_nil]
      repeat (first|((first|(apply Lq.s;rfl)|apply PRun.s|(apply Lq.run;rfl;rfl;rfl;exact bsB)|(apply PRun.run;rfl;rfl;exact bsB));first|(exact bsO))|refine bsA ?_|(apply Lq.al;rfl;rfl;intro b)|(apply Open.cons;intro b)|refine bsC ?_)
      (refine J.ret ?_;(repeat (first|refine E.then_ret ?_|refine E.in_ret ?_)))
      exact E.retR2 (G:=[]) rfl rfl rfl ⟨rfl,_,Rl_refl _,hV2⟩ (by rw [List.append_nil])
end Go.Proofs.YtljbbajelkkafaaDoor.L
