import Derived.Test.YtljbbajelkkafaaDoorMzd
import Derived.Test.YtljbbajelkkafaaDoorMl
import Derived.Test.YtljbbajelkkafaaDoorMq
/-
  What a model tells and what the document's side tells,compared,walked.
-/
namespace Go.Proofs.YtljbbajelkkafaaDoor.L
open Go
set_option linter.unusedSectionVars false
variable [Globs] [Has_sha_table] [Has_sha_begin]
set_option linter.unusedVariables false
section
variable {P:Program} {Γ:Env} {Δ:List Res} {d:Option Nat} {ty t:Nat} {pos:String} {af:Array Edge} {g:Option (Nat × Bool)}
theorem op_zeroV {z:Value} {pl:Nat→Option (Nat × Nat)} [hz:TZero P t z] [hp:TPl P t pl] (hl:z.cells.toList.map is=[is (.int .i64 0),is (.slice none 0 0)]) (ho:z.cells.toList.all (fun v=>v.oneCell')=true):OpP P Γ Δ ⟨d, .build t #[],ty,pos,af,g⟩ (viewT.val emptyV):=by
  have hb:=op_build (P:=P) (Γ:=Γ) (Δ:=Δ) (d:=d) (ty:=ty) (pos:=pos) (af:=af) (g:=g) (t:=t) (z:=z) (pl:=pl) (ps:=[]) (φs:=z.cells.toList.map is) ho (BP.nil _)
  rw [hl] at hb
  exact fun H a w Q K h1 h2 h3 h4 hK=>hb H a w Q K h1 h2 h3 h4 (fun v H' w' E hv=>hK v H' w' E (agg_convM view_nil H' v hv))
end
theorem same26_fn (v:ViewV) (h:GoodV v):Fn Tryd.prog 20 [viewT.val v,viewT.val v] (is (.bool true)):=by
  have:=sameView_fn v v h h
  rwa [decide_eq_true rfl] at this
theorem op_bneD {P:Program} {Γ:Env} {Δ:List Res} {d:Option Nat} {ty t yt:Nat} {pos:String} {af:Array Edge} {g:Option (Nat × Bool)} {x y:Operand} {a b:Bool} [hb:TBool P t] (h1:opd Γ x=some (is (.bool a))) (h2:opd Γ y=some (is (.bool b))) (h:b=a):OpP P Γ Δ ⟨d, .binOp .neq t x y yt,ty,pos,af,g⟩ (is (.bool false)):=by
  have:=op_bne (P:=P) (Δ:=Δ) (d:=d) (ty:=ty) (pos:=pos) (af:=af) (g:=g) (t:=t) (yt:=yt) h1 h2
  rw [h] at this
  rwa [show (!(a == a))=false by cases a <;> rfl] at this
theorem sure_of {m w:MM} (h:Rl m w) (hf:m.fmt=true):w.sure.v=sureM m:=by rw [sureM_t hf,h.2.2.1]
variable [Has_ref02_k]
set_option linter.unusedVariables false
set_option linter.unusedSimpArgs false
attribute [local irreducible] J Lq E OpP PRun is any agg tup ptr sl PRunW OpE
attribute [local irreducible] slt row leafH shaH docR docL OpR dst fsL mdV recsR stL mdl mdC
set_option maxRecDepth 100000 in
set_option maxHeartbeats 32000000 in
theorem same_mV {B W:Nat} {m:MM} (hok:MOk m):FnV Tryd.prog 24 [is (.pointer (some ⟨B,0,none⟩)),is (.pointer (some ⟨W,0,none⟩))] (star (mdV B m) (fsR W m)) (is (.bool true)) (star (mdV B m) (fsR W m)):=by
  intro Δ hV0
  obtain ⟨D,E0,hV,⟨w,hR,hE⟩,hp0⟩:=hV0
  have h1:=hR.1
  have h2:=hR.2.1
  have h3:=hR.2.2.1
  obtain ⟨w1,hw1e⟩ : ∃ v,v=viewM m:=⟨_,rfl⟩
  have hw1:GoodV w1:=by rw [hw1e];exact good_viewM hok
  obtain ⟨s1,hs1e⟩ : ∃ v,v=sureM m:=⟨_,rfl⟩
  have hs1:GoodV s1:=by rw [hs1e];exact good_sureM hok
  have P1:=fun D hV=>mviewV (B:=B) hok D hV
  rw [← hw1e] at P1
  have P2:=fun D hV=>msureV (B:=B) hok D hV
  rw [← hs1e] at P2
  have post : ∀ D E0:List Res,mdV B m D→fsV W w E0→star (mdV B m) (fsR W m) (D++E0):=fun D E0 h k=>⟨D,E0,h,⟨w,hR,k⟩,List.Perm.refl _⟩
  refine FnR.mk' 215 Tryd.func24 rfl rfl rfl rfl fun w0 H0=>?_
  refine J.perm hp0 ?_
  repeat (first|((first|(apply Lq.s;rfl)|apply PRun.s|(apply Lq.run;rfl;rfl;rfl;exact bsB)|(apply PRun.run;rfl;rfl;exact bsB));first|(exact bsO))|refine bsA ?_|(apply Lq.al;rfl;rfl;intro b)|(apply Open.cons;intro b)|refine bsC ?_)
  refine Lq.callS (Δ0:=D) (Δf:=E0) (P1 D hV) rfl bsD (List.Perm.refl _) ?_
  rintro _ D ⟨rfl,hV⟩
  repeat (first|((first|(apply Lq.s;rfl)|apply PRun.s|(apply Lq.run;rfl;rfl;rfl;exact bsB)|(apply PRun.run;rfl;rfl;exact bsB));first|(exact bsO))|refine bsA ?_|(apply Lq.al;rfl;rfl;intro b)|(apply Open.cons;intro b)|refine bsC ?_)
  revert b
  intro b5
  refine Lq.res1 (r':=own b5 45 (viewT.cells w1)) (List.Perm.refl _) (fun H w h=>⟨h,rfl⟩) ?_
  refine Lq.frzB 5 rfl (List.Perm.refl _) ?_
  refine Lq.callS (Δ0:=D) (Δf:=E0) (P2 D hV) rfl bsD (List.Perm.refl _) ?_
  rintro _ D ⟨rfl,hV⟩
  repeat (first|((first|(apply Lq.s;rfl)|apply PRun.s|(apply Lq.run;rfl;rfl;rfl;exact bsB)|(apply PRun.run;rfl;rfl;exact bsB));first|(exact bsO))|refine bsA ?_|(apply Lq.al;rfl;rfl;intro b)|(apply Open.cons;intro b)|refine bsC ?_)
  revert b
  intro b7
  refine Lq.res1 (r':=own b7 45 (viewT.cells s1)) (List.Perm.refl _) (fun H w h=>⟨h,rfl⟩) ?_
  refine Lq.frzB 7 rfl (List.Perm.refl _) ?_
  have hE2:=hE
  obtain ⟨A1,c1,xs1,A2,c2,xs2,hf,hEe⟩:=hE
  rw [hEe] at hE2 ⊢
  rw [fsL_cons] at hE2 ⊢
  unfold fsC at hE2 ⊢
  refine Lq.perm (Δ':=own W 91 [is (.bool w.fmt),is (.bool w.mnt),is (.slice A1 xs1.length c1),is (.slice A2 xs2.length c2),is (.int .i64 w.sure.clock),is (.int .i64 w.cur.clock),is (.int .i64 (w.todo:Int))]::(D++(dst A2 c2 xs2++dst A1 c1 xs1))) (permP [D,[_],dst A2 c2 xs2++dst A1 c1 xs1] [0,1,2] [1,0,2] (by decide)) ?_
  repeat (first|((first|(apply Lq.s;rfl)|apply PRun.s|(apply Lq.run;rfl;rfl;rfl;exact bsB)|(apply PRun.run;rfl;rfl;exact bsB));first|(apply op_ocell;rfl;exact bsM;rfl)|(apply op_slen;rfl)|(apply op_bneD;rfl;rfl;assumption)|(exact bsO))|refine bsA ?_|(apply Lq.al;rfl;rfl;intro b)|(apply Open.cons;intro b)|refine bsC ?_)
  refine J.perm (Δ':=D++E0) (by rw [hEe,fsL_cons];unfold fsC;exact permP [[_],D,dst A2 c2 xs2++dst A1 c1 xs1] [0,1,2] [1,0,2] (by decide)) ?_
  clear hE2
  have hEE:fsV W w E0:=⟨A1,c1,xs1,A2,c2,xs2,hf,hEe⟩
  clear hEe hf
  have hE:=hEE
  clear hEE
  have hskw:StOk w.sure:=by rw [h3];exact hok.sure
  refine J.mid (fun p:List Res × List Res=>mdV B m p.1∧fsV W w p.2) (fun p=>[(0,is (.pointer (some ⟨B,0,none⟩))),(1,is (.pointer (some ⟨W,0,none⟩))),(5,ptr (viewT.cells w1)),(6,is (.bool m.mnt)),(65,is (.bool false))]) (fun p=>p.1++p.2) ?_ ?_
  · cases hfm:m.fmt with
    | true =>
      have P3:=fun E hE=>dViewV (W:=W) (m:=w) true (fun _=>hskw) (fun h=>by cases h) E hE
      rw [if_pos rfl,sure_of hR hfm, ← hs1e] at P3
      refine J.drawV 18 [false,false,false,false,true,false,false,false,false,false,false,false,false,false,false,false,false,false] _ (star_mk hV hE) mixed (by kernel_rfl) ?_
      repeat (first|((first|apply PRunV.s|(apply PRunV.run;rfl;rfl;exact bsB)|(apply Lq.s;rfl)|apply PRun.s|(apply Lq.run;rfl;rfl;rfl;exact bsB)|(apply PRun.run;rfl;rfl;exact bsB));first|(apply op_load viewT;rfl)|(exact bsO))|refine bsA ?_|(apply Lq.al;rfl;rfl;intro b)|(apply Open.cons;intro b)|refine bsC ?_|(apply PRunV.pass;rfl;rfl)|(apply PRunV.skip;rfl;rfl;exact bsB))
      refine PRunV.er rfl rfl rfl (opV_call2 P3 bsD) ?_
      repeat (first|((first|apply PRunV.s|(apply PRunV.run;rfl;rfl;exact bsB)|(apply Lq.s;rfl)|apply PRun.s|(apply Lq.run;rfl;rfl;rfl;exact bsB)|(apply PRun.run;rfl;rfl;exact bsB));first|(apply op_load viewT;rfl)|(apply op_call (same26_fn s1 hs1);exact bsD)|(exact bsO))|refine bsA ?_|(apply Lq.al;rfl;rfl;intro b)|(apply Open.cons;intro b)|refine bsC ?_|(apply PRunV.pass;rfl;rfl)|(apply PRunV.skip;rfl;rfl;exact bsB))
      refine PRunV.nil ?_
      rintro Δ2 ⟨D,E0,hV,hE,hp⟩
      refine Lq.perm hp ?_
      repeat (first|((first|(apply Lq.s;rfl)|apply PRun.s|(apply Lq.run;rfl;rfl;rfl;exact bsB)|(apply PRun.run;rfl;rfl;exact bsB));first|(exact bsO))|refine bsA ?_|(apply Lq.al;rfl;rfl;intro b)|(apply Open.cons;intro b)|refine bsC ?_)
      exact E.mid (D,E0) ⟨hV,hE⟩ (Sub.same (by repeat' (first|exact trivial|refine ⟨rfl,?_⟩)))
    | false =>
      have hse:s1=emptyV:=by rw [hs1e,sureM_f hfm]
      rw [hse]
      refine J.drawV 18 [false,false,false,false,false,false,false,false,false,false,false,false,false,false,false,false,false,false] _ (star_mk hV hE) mixed (by kernel_rfl) ?_
      repeat (first|((first|apply PRunV.s|(apply PRunV.run;rfl;rfl;exact bsB)|(apply Lq.s;rfl)|apply PRun.s|(apply Lq.run;rfl;rfl;rfl;exact bsB)|(apply PRun.run;rfl;rfl;exact bsB));first|(apply op_load viewT;rfl)|(apply op_zeroV;rfl;rfl)|(apply op_call (same26_fn emptyV good_empty);exact bsD)|(exact bsO))|refine bsA ?_|(apply Lq.al;rfl;rfl;intro b)|(apply Open.cons;intro b)|refine bsC ?_|(apply PRunV.pass;rfl;rfl)|(apply PRunV.skip;rfl;rfl;exact bsB))
      refine PRunV.nil ?_
      rintro Δ2 ⟨D,E0,hV,hE,hp⟩
      refine Lq.perm hp ?_
      repeat (first|((first|(apply Lq.s;rfl)|apply PRun.s|(apply Lq.run;rfl;rfl;rfl;exact bsB)|(apply PRun.run;rfl;rfl;exact bsB));first|(exact bsO))|refine bsA ?_|(apply Lq.al;rfl;rfl;intro b)|(apply Open.cons;intro b)|refine bsC ?_)
      exact E.mid (D,E0) ⟨hV,hE⟩ (Sub.same (by repeat' (first|exact trivial|refine ⟨rfl,?_⟩)))
  clear hV hE
  rintro ⟨D,E0⟩ ⟨hV,hE⟩
  dsimp only at hV hE ⊢
  cases hm:m.mnt with
  | false =>
    have hwe:w1=emptyV:=by rw [hw1e,viewM_f hm]
    rw [hwe]
    repeat (first|((first|(apply Lq.s;rfl)|apply PRun.s|(apply Lq.run;rfl;rfl;rfl;exact bsB)|(apply PRun.run;rfl;rfl;exact bsB));first|(apply op_load viewT;rfl)|(apply op_zeroV;rfl;rfl)|(apply op_call (same26_fn emptyV good_empty);exact bsD)|(exact bsO))|refine bsA ?_|(apply Lq.al;rfl;rfl;intro b)|(apply Open.cons;intro b)|refine bsC ?_)
    (refine J.ret ?_;(repeat (first|refine E.then_ret ?_|refine E.in_ret ?_)))
    exact E.retR1 (Δ':=D++E0) (G:=[]) rfl rfl ⟨rfl,post D E0 hV hE⟩ (by rw [List.append_nil])
  | true =>
    obtain rfl:w=m:=hR.2.2.2 hm
    have hwv:w1=w.cur.v:=by rw [hw1e,viewM_t hm]
    have P4:=fun E hE=>dViewV (W:=W) (m:=w) false (fun h=>by cases h) (fun _=>hok.cur) E hE
    rw [if_neg (by decide), ← hwv] at P4
    repeat (first|((first|(apply Lq.s;rfl)|apply PRun.s|(apply Lq.run;rfl;rfl;rfl;exact bsB)|(apply PRun.run;rfl;rfl;exact bsB));first|(exact bsO))|refine bsA ?_|(apply Lq.al;rfl;rfl;intro b)|(apply Open.cons;intro b)|refine bsC ?_)
    refine J.drawV 5 [false,false,true,false,false] _ (star_mk hV hE) mixed (by kernel_rfl) ?_
    repeat (first|((first|apply PRunV.s|(apply PRunV.run;rfl;rfl;exact bsB)|(apply Lq.s;rfl)|apply PRun.s|(apply Lq.run;rfl;rfl;rfl;exact bsB)|(apply PRun.run;rfl;rfl;exact bsB));first|(apply op_load viewT;rfl)|(exact bsO))|refine bsA ?_|(apply Lq.al;rfl;rfl;intro b)|(apply Open.cons;intro b)|refine bsC ?_|(apply PRunV.pass;rfl;rfl)|(apply PRunV.skip;rfl;rfl;exact bsB))
    refine PRunV.e (opV_call2 P4 bsD) ?_
    repeat (first|((first|apply PRunV.s|(apply PRunV.run;rfl;rfl;exact bsB)|(apply Lq.s;rfl)|apply PRun.s|(apply Lq.run;rfl;rfl;rfl;exact bsB)|(apply PRun.run;rfl;rfl;exact bsB));first|(apply op_call (same26_fn w1 hw1);exact bsD)|(exact bsO))|refine bsA ?_|(apply Lq.al;rfl;rfl;intro b)|(apply Open.cons;intro b)|refine bsC ?_|(apply PRunV.pass;rfl;rfl)|(apply PRunV.skip;rfl;rfl;exact bsB))
    refine PRunV.nil ?_
    clear hV hE
    rintro Δ2 ⟨D,E0,hV,hE,hp⟩
    refine Lq.perm hp ?_
    clear hp Δ2
    repeat (first|((first|(apply Lq.s;rfl)|apply PRun.s|(apply Lq.run;rfl;rfl;rfl;exact bsB)|(apply PRun.run;rfl;rfl;exact bsB));first|(exact bsO))|refine bsA ?_|(apply Lq.al;rfl;rfl;intro b)|(apply Open.cons;intro b)|refine bsC ?_)
    refine J.loop (fun p:Nat × List Res × List Res=>p.1≤w1.streams.length∧mdV B w p.2.1∧fsV W w p.2.2) (fun p=>[(0,is (.pointer (some ⟨B,0,none⟩))),(1,is (.pointer (some ⟨W,0,none⟩))),(5,ptr (viewT.cells w1)),(9,is (.int .i64 (p.1:Int)))]) (fun p=>p.2.1++p.2.2) (fun p=>w1.streams.length - p.1) (0,D,E0) ⟨Nat.zero_le _,hV,hE⟩ (Sub.same (by repeat' (first|exact trivial|refine ⟨rfl,?_⟩))) ?_
    clear hV hE
    rintro ⟨i,D,E0⟩ ⟨hi,hV,hE⟩
    dsimp only at hi hV hE ⊢
    have hwl:=hw1.1
    by_cases hlt:i < w1.streams.length
    · obtain ⟨y,hy⟩ : ∃ y,w1.streams[i]?=some y:=⟨_,List.getElem?_eq_getElem hlt⟩
      obtain ⟨x,hx⟩ : ∃ x,x=y.name:=⟨_,rfl⟩
      have he:errFind w x=0:=by
        have hy2:(w.cur.streams.map MStr.v)[i]?=some y:=by rw [hwv] at hy;exact hy
        rw [List.getElem?_map] at hy2
        cases hq:w.cur.streams[i]? with
        | none=>rw [hq] at hy2;cases hy2
        | some q =>
          rw [hq] at hy2
          injection hy2 with hy2
          refine errFind_0 hm (List.any_eq_true.2 ⟨q,List.mem_of_getElem? hq,?_⟩)
          unfold isN
          rw [hx, ← hy2]
          exact decide_eq_true rfl
      have Q1:=fun D hV=>mstatV (B:=B) x hok D hV
      have Q2:=fun D hV=>dStatV (W:=W) x hok D hV
      have Q3:=fun D hV=>mhashesV (B:=B) x hok D hV
      have Q4:=fun D hV=>dFindV (W:=W) x hok D hV
      rw [hashesM_ok he] at Q3
      rw [docF_0 he,he] at Q4
      generalize statMM w x=sq at Q1 Q2
      obtain ⟨st,es⟩:=sq
      obtain ⟨d,hd⟩ : ∃ d,d=(findS w x).d:=⟨_,rfl⟩
      obtain ⟨hs,hhs⟩ : ∃ l,l=(findS w x).recs.map MRec.hash:=⟨_,rfl⟩
      have hdl:d.leaves=hs:=by rw [hd,hhs];rfl
      have hhl:hs.length≤64:=by rw [hhs,List.length_map];exact (hok.cur.2 _ (findS_mem (find_ok0 he).2).1).1
      rw [← hhs] at Q3
      rw [← hd] at Q4
      clear hd hhs
      obtain ⟨dv,dl⟩:=d
      have hdl:dl=hs:=hdl
      subst hdl
      dsimp only at Q1 Q2 Q3 Q4
      repeat (first|((first|(apply Lq.s;rfl)|apply PRun.s|(apply Lq.run;rfl;rfl;rfl;exact bsB)|(apply PRun.run;rfl;rfl;exact bsB));first|(apply op_load viewT;rfl)|(apply op_faddr view_streams;rfl;decide)|(apply op_load (slT seenT);rfl)|(apply op_len (xs:=w1.streams);rfl)|(apply op_iaddr seenT.toTy (x:=y);rfl;rfl;exact Int.natCast_nonneg _;(rw [Int.toNat_natCast];exact hy))|(apply op_faddr seen_name;rfl;decide)|(apply op_load strT;rfl)|(exact bsO))|refine bsA ?_|(apply Lq.al;rfl;rfl;intro b)|(apply Open.cons;intro b)|refine bsC ?_)
      rw [show strT.val y.name=is (str x) by rw [hx];rfl]
      refine Lq.callS (Δ0:=D) (Δf:=E0) (Q1 D hV) rfl bsD (List.Perm.refl _) ?_
      rintro _ D ⟨rfl,hV⟩
      repeat (first|((first|(apply Lq.s;rfl)|apply PRun.s|(apply Lq.run;rfl;rfl;rfl;exact bsB)|(apply PRun.run;rfl;rfl;exact bsB));first|(exact bsO))|refine bsA ?_|(apply Lq.al;rfl;rfl;intro b)|(apply Open.cons;intro b)|refine bsC ?_)
      revert b
      intro b11
      refine Lq.res1 (r':=own b11 59 (statVT.cells st)) (List.Perm.refl _) (fun H w h=>⟨h,rfl⟩) ?_
      refine Lq.frzB 11 rfl (List.Perm.refl _) ?_
      refine Lq.callS (Δ0:=E0) (Δf:=D) (Q2 E0 hE) rfl bsD List.perm_append_comm ?_
      rintro _ E0 ⟨rfl,hE⟩
      refine Lq.perm (Δ':=D++E0) List.perm_append_comm ?_
      repeat (first|((first|(apply Lq.s;rfl)|apply PRun.s|(apply Lq.run;rfl;rfl;rfl;exact bsB)|(apply PRun.run;rfl;rfl;exact bsB));first|(exact bsO))|refine bsA ?_|(apply Lq.al;rfl;rfl;intro b)|(apply Open.cons;intro b)|refine bsC ?_)
      revert b
      intro b13
      refine Lq.res1 (r':=own b13 59 (statVT.cells st)) (List.Perm.refl _) (fun H w h=>⟨h,rfl⟩) ?_
      refine Lq.frzB 13 rfl (List.Perm.refl _) ?_
      refine Lq.callS (Δ0:=D) (Δf:=E0) (Q3 D hV) rfl bsD (List.Perm.refl _) ?_
      rintro _ D ⟨rfl,hV⟩
      repeat (first|((first|(apply Lq.s;rfl)|apply PRun.s|(apply Lq.run;rfl;rfl;rfl;exact bsB)|(apply PRun.run;rfl;rfl;exact bsB));first|(exact bsO))|refine bsA ?_|(apply Lq.al;rfl;rfl;intro b)|(apply Open.cons;intro b)|refine bsC ?_)
      refine Lq.callS (Δ0:=E0) (Δf:=D) (Q4 E0 hE) rfl bsD List.perm_append_comm ?_
      rintro _ E0 ⟨rfl,hE⟩
      refine Lq.perm (Δ':=D++E0) List.perm_append_comm ?_
      repeat (first|((first|(apply Lq.s;rfl)|apply PRun.s|(apply Lq.run;rfl;rfl;rfl;exact bsB)|(apply PRun.run;rfl;rfl;exact bsB));first|(exact bsO))|refine bsA ?_|(apply Lq.al;rfl;rfl;intro b)|(apply Open.cons;intro b)|refine bsC ?_)
      revert b
      intro b17
      refine Lq.res1 (r':=own b17 95 (docT.cells ⟨dv,dl⟩)) (List.Perm.refl _) (fun H w h=>⟨h,rfl⟩) ?_
      refine Lq.frzB 17 rfl (List.Perm.refl _) ?_
      repeat (first|((first|(apply Lq.s;rfl)|apply PRun.s|(apply Lq.run;rfl;rfl;rfl;exact bsB)|(apply PRun.run;rfl;rfl;exact bsB));first|(apply op_faddr statv_name;rfl;decide)|(apply op_faddr statv_retain;rfl;decide)|(apply op_faddr statv_holds;rfl;decide)|(apply op_faddr statv_recs;rfl;decide)|(apply op_faddr statv_live;rfl;decide)|(apply op_load strT;rfl)|(apply op_load (intT .i64);rfl)|(apply op_load (slT strT);rfl)|(apply op_len (xs:=st.holds);rfl)|(apply op_len (xs:=dl);rfl)|(apply op_faddr doc_leaves;rfl;decide)|(apply op_load (slT hashT);rfl)|(apply op_sneF (a:=st.name) (b:=st.name);rfl;rfl;rfl)|(apply op_neq_f;rfl;rfl;rfl)|(exact bsO))|refine bsA ?_|(apply Lq.al;rfl;rfl;intro b)|(apply Open.cons;intro b)|refine bsC ?_)
      have post2:=hV
      refine J.loop (fun p:Nat × List Res × List Res=>p.1≤dl.length+2∧mdV B w p.2.1∧fsV W w p.2.2) (fun p=>[(0,is (.pointer (some ⟨B,0,none⟩))),(1,is (.pointer (some ⟨W,0,none⟩))),(5,ptr (viewT.cells w1)),(9,is (.int .i64 (i:Int))),(10,is (str x)),(15,sl hashT.toTy dl),(17,ptr (docT.cells ⟨dv,dl⟩)),(19,is (.int .i64 ((p.1:Int) - 1)))]) (fun p=>p.2.1++p.2.2) (fun p=>dl.length+2 - p.1) (0,D,E0) ⟨Nat.zero_le _,hV,hE⟩ (Sub.same (by repeat' (first|exact trivial|refine ⟨rfl,?_⟩))) ?_
      clear hV hE post2
      rintro ⟨j,D,E0⟩ ⟨hj,hV,hE⟩
      dsimp only at hj hV hE ⊢
      by_cases hlj:j < dl.length+2
      · have U1:=fun D hV=>mreadV (B:=B) x ((j:Int) - 1) hok D hV
        have U2:=fun D hV=>dReadV (W:=W) x ((j:Int) - 1) hok D hV
        generalize readM w x ((j:Int) - 1)=rq at U1 U2
        obtain ⟨rx,re⟩:=rq
        dsimp only at U1 U2
        repeat (first|((first|(apply Lq.s;rfl)|apply PRun.s|(apply Lq.run;rfl;rfl;rfl;exact bsB)|(apply PRun.run;rfl;rfl;exact bsB));first|(apply op_len (xs:=dl);rfl)|(exact bsO))|refine bsA ?_|(apply Lq.al;rfl;rfl;intro b)|(apply Open.cons;intro b)|refine bsC ?_)
        refine Lq.callS (Δ0:=D) (Δf:=E0) (U1 D hV) rfl bsD (List.Perm.refl _) ?_
        rintro _ D ⟨rfl,hV⟩
        repeat (first|((first|(apply Lq.s;rfl)|apply PRun.s|(apply Lq.run;rfl;rfl;rfl;exact bsB)|(apply PRun.run;rfl;rfl;exact bsB));first|(exact bsO))|refine bsA ?_|(apply Lq.al;rfl;rfl;intro b)|(apply Open.cons;intro b)|refine bsC ?_)
        refine Lq.callS (Δ0:=E0) (Δf:=D) (U2 E0 hE) rfl bsD List.perm_append_comm ?_
        rintro _ E0 ⟨rfl,hE⟩
        refine Lq.perm (Δ':=D++E0) List.perm_append_comm ?_
        repeat (first|((first|(apply Lq.s;rfl)|apply PRun.s|(apply Lq.run;rfl;rfl;rfl;exact bsB)|(apply PRun.run;rfl;rfl;exact bsB));first|(exact bsO))|refine bsA ?_|(apply Lq.al;rfl;rfl;intro b)|(apply Open.cons;intro b)|refine bsC ?_)
        by_cases hj0:j=0
        · refine J.drawW 30 [(none,none),(none,none),(none,none),(none,none),(none,none),(none,none),(none,none),(none,none),(none,none),(none,none),(none,none),(none,none),(none,none),(none,none),(none,none),(none,none),(none,none),(none,none),(none,none),(none,none),(none,none),(none,none),(none,none),(none,none),(none,none),(none,none),(none,none),(none,none),(none,none),(none,none)] mixed (by kernel_rfl) ?_
          repeat (first|((first|apply PRunW.s|(apply PRunW.run;rfl;rfl;exact bsB)|(apply Lq.s;rfl)|apply PRun.s|(apply Lq.run;rfl;rfl;rfl;exact bsB)|(apply PRun.run;rfl;rfl;exact bsB));first|(apply op_sneF (a:=rx) (b:=rx);rfl;rfl;rfl)|(apply op_neq_f;rfl;rfl;rfl)|(apply op_len (xs:=dl);rfl)|(exact bsO))|refine bsA ?_|(apply Lq.al;rfl;rfl;intro b)|(apply Open.cons;intro b)|refine bsC ?_|apply PRunW.nil|(apply PRunW.al;rfl)|(apply PRunW.pass;rfl;rfl)|(apply PRunW.skip;rfl;rfl;exact bsB)|(apply Open.pv;intro b)|apply Open.av|(apply Open.rv;intro A c))
          exact E.again (j+1,D,E0) (by dsimp only;omega) ⟨by dsimp only;omega,hV,hE⟩ (by dsimp only;rw [show (((j+1:Nat):Int) - 1)=(j:Int) - 1+1 by omega];exact (Sub.same (by repeat' (first|exact trivial|refine ⟨rfl,?_⟩))))
        by_cases hjl:j < dl.length+1
        · obtain ⟨hh,hhx⟩ : ∃ q,dl[j - 1]?=some q:=⟨_,List.getElem?_eq_getElem (by omega)⟩
          have hjn:((j:Int) - 1).toNat=j - 1:=by omega
          refine J.drawW 30 [(none,none),(none,none),(none,none),(none,none),(none,none),(none,none),(none,none),(none,none),(none,none),(none,none),(none,none),(none,none),(none,none),(none,none),(none,none),(none,none),(none,none),(none,none),(none,none),(none,none),(none,none),(none,none),(none,none),(none,none),(none,none),(none,none),(none,none),(none,none),(none,none),(none,none)] mixed (by kernel_rfl) ?_
          repeat (first|((first|apply PRunW.s|(apply PRunW.run;rfl;rfl;exact bsB)|(apply Lq.s;rfl)|apply PRun.s|(apply Lq.run;rfl;rfl;rfl;exact bsB)|(apply PRun.run;rfl;rfl;exact bsB));first|(apply op_sneF (a:=rx) (b:=rx);rfl;rfl;rfl)|(apply op_neq_f;rfl;rfl;rfl)|(apply op_len (xs:=dl);rfl)|(apply op_iaddr hashT.toTy (x:=hh);rfl;rfl;omega;(rw [hjn];exact hhx))|(apply op_load hashT;rfl)|(apply op_faddr doc_leaves;rfl;decide)|(apply op_load (slT hashT);rfl)|(apply op_neA_f (T:=hashT) (m:=2) (eqd_arr eqd_u8) rfl rfl;rfl;rfl;rfl)|(exact bsO))|refine bsA ?_|(apply Lq.al;rfl;rfl;intro b)|(apply Open.cons;intro b)|refine bsC ?_|apply PRunW.nil|(apply PRunW.al;rfl)|(apply PRunW.pass;rfl;rfl)|(apply PRunW.skip;rfl;rfl;exact bsB)|(apply Open.pv;intro b)|apply Open.av|(apply Open.rv;intro A c))
          exact E.again (j+1,D,E0) (by dsimp only;omega) ⟨by dsimp only;omega,hV,hE⟩ (by dsimp only;rw [show (((j+1:Nat):Int) - 1)=(j:Int) - 1+1 by omega];exact (Sub.same (by repeat' (first|exact trivial|refine ⟨rfl,?_⟩))))
        · refine J.drawW 30 [(none,none),(none,none),(none,none),(none,none),(none,none),(none,none),(none,none),(none,none),(none,none),(none,none),(none,none),(none,none),(none,none),(none,none),(none,none),(none,none),(none,none),(none,none),(none,none),(none,none),(none,none),(none,none),(none,none),(none,none),(none,none),(none,none),(none,none),(none,none),(none,none),(none,none)] mixed (by kernel_rfl) ?_
          repeat (first|((first|apply PRunW.s|(apply PRunW.run;rfl;rfl;exact bsB)|(apply Lq.s;rfl)|apply PRun.s|(apply Lq.run;rfl;rfl;rfl;exact bsB)|(apply PRun.run;rfl;rfl;exact bsB));first|(apply op_sneF (a:=rx) (b:=rx);rfl;rfl;rfl)|(apply op_neq_f;rfl;rfl;rfl)|(apply op_len (xs:=dl);rfl)|(exact bsO))|refine bsA ?_|(apply Lq.al;rfl;rfl;intro b)|(apply Open.cons;intro b)|refine bsC ?_|apply PRunW.nil|(apply PRunW.al;rfl)|(apply PRunW.pass;rfl;rfl)|(apply PRunW.skip;rfl;rfl;exact bsB)|(apply Open.pv;intro b)|apply Open.av|(apply Open.rv;intro A c))
          exact E.again (j+1,D,E0) (by dsimp only;omega) ⟨by dsimp only;omega,hV,hE⟩ (by dsimp only;rw [show (((j+1:Nat):Int) - 1)=(j:Int) - 1+1 by omega];exact (Sub.same (by repeat' (first|exact trivial|refine ⟨rfl,?_⟩))))
      · obtain rfl:j=dl.length+2:=by omega
        repeat (first|((first|(apply Lq.s;rfl)|apply PRun.s|(apply Lq.run;rfl;rfl;rfl;exact bsB)|(apply PRun.run;rfl;rfl;exact bsB));first|(apply op_len (xs:=dl);rfl)|(exact bsO))|refine bsA ?_|(apply Lq.al;rfl;rfl;intro b)|(apply Open.cons;intro b)|refine bsC ?_)
        exact E.again (i+1,D,E0) (by dsimp only;omega) ⟨by dsimp only;omega,hV,hE⟩ (Sub.same (by repeat' (first|exact trivial|refine ⟨rfl,?_⟩)))
    · obtain rfl:i=w1.streams.length:=by omega
      repeat (first|((first|(apply Lq.s;rfl)|apply PRun.s|(apply Lq.run;rfl;rfl;rfl;exact bsB)|(apply PRun.run;rfl;rfl;exact bsB));first|(apply op_load viewT;rfl)|(apply op_faddr view_streams;rfl;decide)|(apply op_load (slT seenT);rfl)|(apply op_len (xs:=w1.streams);rfl)|(exact bsO))|refine bsA ?_|(apply Lq.al;rfl;rfl;intro b)|(apply Open.cons;intro b)|refine bsC ?_)
      (refine J.ret ?_;(repeat (first|refine E.then_ret ?_|refine E.in_ret ?_)))
      exact E.retR1 (Δ':=D++E0) (G:=[]) rfl rfl ⟨rfl,post D E0 hV hE⟩ (by rw [List.append_nil])
end Go.Proofs.YtljbbajelkkafaaDoor.L
/-
  The laws ModelPlays and ModelMany.
-/
namespace Go.Proofs.YtljbbajelkkafaaDoor.L
open Go
set_option linter.unusedSectionVars false
variable [Globs] [Has_sha_table] [Has_sha_begin]
set_option linter.unusedVariables false
variable [Has_ref02_k]
set_option linter.unusedVariables false
set_option linter.unusedSimpArgs false
attribute [local irreducible] J Lq E OpP PRun is any agg tup ptr sl PRunW OpE
attribute [local irreducible] slt row leafH shaH docR docL OpR dst fsL mdV recsR stL mdl mdC fsR
set_option maxRecDepth 100000 in
set_option maxHeartbeats 32000000 in
theorem modelPlays (l:List StepS) (full:List Bool) (_h:l.length≤maxLen ∧ ∀ x ∈ l,StepOk x) (_h2:full.length≤maxLen ∧ ∀ x ∈ full,True):Fn Tryd.prog 5 [sl stepT.toTy l,sl boolT.toTy full] (is (.bool true)):=by
  have hlen:=_h.1
  have hflen:=_h2.1
  unfold maxLen at hlen hflen
  have hbf:=beyond_fn l 60 _h.1
  refine Fn.mk' 80 Tryd.func5 rfl rfl rfl rfl fun w0 H0=>?_
  cases hbb:beyondL l 60 with
  | true =>
    rw [hbb] at hbf
    repeat (first|((first|(apply Lq.s;rfl)|apply PRun.s|(apply Lq.run;rfl;rfl;rfl;exact bsB)|(apply PRun.run;rfl;rfl;exact bsB));first|(apply op_call hbf;exact bsD)|(apply op_call lives26_fn;exact bsD)|(exact bsO))|refine bsA ?_|(apply Lq.al;rfl;rfl;intro b)|(apply Open.cons;intro b)|(apply J.drawN;exact mixed;kernel_rfl)|refine bsC ?_)
    (refine J.ret ?_;(repeat (first|refine E.then_ret ?_|refine E.in_ret ?_)))
    exact E.ret1 rfl rfl
  | false =>
  rw [hbb] at hbf
  obtain ⟨hl60,hall⟩:=beyond_ok hbb
  by_cases hf1:100 < full.length
  · repeat (first|((first|(apply Lq.s;rfl)|apply PRun.s|(apply Lq.run;rfl;rfl;rfl;exact bsB)|(apply PRun.run;rfl;rfl;exact bsB));first|(apply op_call hbf;exact bsD)|(apply op_len (xs:=full);rfl)|(apply op_call lives26_fn;exact bsD)|(exact bsO))|refine bsA ?_|(apply Lq.al;rfl;rfl;intro b)|(apply Open.cons;intro b)|(apply J.drawN;exact mixed;kernel_rfl)|refine bsC ?_)
    (refine J.ret ?_;(repeat (first|refine E.then_ret ?_|refine E.in_ret ?_)))
    exact E.ret1 rfl rfl
  repeat (first|((first|(apply Lq.s;rfl)|apply PRun.s|(apply Lq.run;rfl;rfl;rfl;exact bsB)|(apply PRun.run;rfl;rfl;exact bsB));first|(apply op_call hbf;exact bsD)|(apply op_len (xs:=full);rfl)|(exact bsO))|refine bsA ?_|(apply Lq.al;rfl;rfl;intro b)|(apply Open.cons;intro b)|refine bsC ?_)
  refine Lq.callS (Δ0:=[]) (Δf:=[]) mnew_fnR rfl bsD (List.Perm.refl _) ?_
  rintro _ D ⟨B,rfl,hV⟩
  rw [List.append_nil]
  repeat (first|((first|(apply Lq.s;rfl)|apply PRun.s|(apply Lq.run;rfl;rfl;rfl;exact bsB)|(apply PRun.run;rfl;rfl;exact bsB));first|(exact bsO))|refine bsA ?_|(apply Lq.al;rfl;rfl;intro b)|(apply Open.cons;intro b)|refine bsC ?_)
  refine Lq.callS (Δ0:=[]) (Δf:=D) dnew_fnR rfl bsD (List.Perm.refl _) ?_
  rintro _ E0 ⟨W,rfl,hE⟩
  refine Lq.perm (Δ':=D++E0) List.perm_append_comm ?_
  repeat (first|((first|(apply Lq.s;rfl)|apply PRun.s|(apply Lq.run;rfl;rfl;rfl;exact bsB)|(apply PRun.run;rfl;rfl;exact bsB));first|(exact bsO))|refine bsA ?_|(apply Lq.al;rfl;rfl;intro b)|(apply Open.cons;intro b)|refine bsC ?_)
  refine J.loop (fun p:Nat × MM × List Res × List Res=>p.1≤l.length∧mdV B p.2.1 p.2.2.1∧MOk p.2.1∧fsR W p.2.1 p.2.2.2) (fun p=>[(0,sl stepT.toTy l),(1,sl boolT.toTy full),(5,is (.pointer (some ⟨B,0,none⟩))),(6,is (.pointer (some ⟨W,0,none⟩))),(7,is (.int .i64 (p.1:Int)))]) (fun p=>p.2.2.1++p.2.2.2) (fun p=>l.length - p.1) (0,newMM,D,E0) ⟨Nat.zero_le _,hV,new_ok,hE⟩ (Sub.same (by repeat' (first|exact trivial|refine ⟨rfl,?_⟩))) ?_
  clear hV hE D E0
  rintro ⟨i,m,D,E0⟩ ⟨hi,hV,hok,hE⟩
  dsimp only at hi hV hok hE ⊢
  by_cases hlt:i < l.length
  · obtain ⟨s,hs⟩ : ∃ x,l[i]?=some x:=⟨_,List.getElem?_eq_getElem hlt⟩
    obtain ⟨hst,hsn⟩:=hall s (List.mem_of_getElem? hs)
    by_cases hif:i < full.length
    · obtain ⟨f,hf⟩ : ∃ x,full[i]?=some x:=⟨_,List.getElem?_eq_getElem hif⟩
      have hok2:=do_ok hok s f
      have P1:=fun D hV=>mdoV (B:=B) s f hok D hV
      have P2:=fun E hE=>ddoV (W:=W) s f hok (by omega) (by omega) E hE
      generalize doM m s f=q at P1 P2 hok2
      obtain ⟨m2,nn,er⟩:=q
      dsimp only at P1 P2 hok2
      repeat (first|((first|(apply Lq.s;rfl)|apply PRun.s|(apply Lq.run;rfl;rfl;rfl;exact bsB)|(apply PRun.run;rfl;rfl;exact bsB));first|(apply op_len (xs:=l);rfl)|(apply op_len (xs:=full);rfl)|(apply op_iaddr boolT.toTy (x:=f);rfl;rfl;exact Int.natCast_nonneg _;(rw [Int.toNat_natCast];exact hf))|(apply op_load boolT;rfl)|(apply op_iaddr stepT.toTy (x:=s);rfl;rfl;exact Int.natCast_nonneg _;(rw [Int.toNat_natCast];exact hs))|(apply op_load stepT;rfl)|(exact bsO))|refine bsA ?_|(apply Lq.al;rfl;rfl;intro b)|(apply Open.cons;intro b)|refine bsC ?_)
      refine Lq.callS (Δ0:=D) (Δf:=E0) (P1 D hV) rfl bsD (List.Perm.refl _) ?_
      rintro _ D2 ⟨rfl,hV2⟩
      repeat (first|((first|(apply Lq.s;rfl)|apply PRun.s|(apply Lq.run;rfl;rfl;rfl;exact bsB)|(apply PRun.run;rfl;rfl;exact bsB));first|(apply op_iaddr stepT.toTy (x:=s);rfl;rfl;exact Int.natCast_nonneg _;(rw [Int.toNat_natCast];exact hs))|(apply op_load stepT;rfl)|(exact bsO))|refine bsA ?_|(apply Lq.al;rfl;rfl;intro b)|(apply Open.cons;intro b)|refine bsC ?_)
      refine Lq.callS (Δ0:=E0) (Δf:=D2) (P2 E0 hE) rfl bsD List.perm_append_comm ?_
      rintro _ E2 ⟨rfl,hE2⟩
      refine Lq.perm (Δ':=D2++E2) List.perm_append_comm ?_
      repeat (first|((first|(apply Lq.s;rfl)|apply PRun.s|(apply Lq.run;rfl;rfl;rfl;exact bsB)|(apply PRun.run;rfl;rfl;exact bsB));first|(apply op_neq_f;rfl;rfl;rfl)|(apply op_sneF (a:=[]) (b:=[]);rfl;rfl;rfl)|(exact bsO))|refine bsA ?_|(apply Lq.al;rfl;rfl;intro b)|(apply Open.cons;intro b)|refine bsC ?_)
      refine Lq.wanted rfl rfl rfl ?_
      refine Lq.callS (Δ0:=D2++E2) (Δf:=[]) (same_mV (B:=B) (W:=W) hok2 (D2++E2) (star_mk hV2 hE2)) rfl bsD (by rw [List.append_nil]) ?_
      rintro _ Δ3 ⟨rfl,D3,E3,hV3,hE3,hp3⟩
      rw [List.append_nil]
      refine Lq.perm hp3 ?_
      repeat (first|((first|(apply Lq.s;rfl)|apply PRun.s|(apply Lq.run;rfl;rfl;rfl;exact bsB)|(apply PRun.run;rfl;rfl;exact bsB));first|(exact bsO))|refine bsA ?_|(apply Lq.al;rfl;rfl;intro b)|(apply Open.cons;intro b)|refine bsC ?_)
      exact E.again (i+1,m2,D3,E3) (by dsimp only;omega) ⟨by dsimp only;omega,hV3,hok2,hE3⟩ (Sub.same (by repeat' (first|exact trivial|refine ⟨rfl,?_⟩)))
    · skip
      have hok2:=do_ok hok s false
      have P1:=fun D hV=>mdoV (B:=B) s false hok D hV
      have P2:=fun E hE=>ddoV (W:=W) s false hok (by omega) (by omega) E hE
      generalize doM m s false=q at P1 P2 hok2
      obtain ⟨m2,nn,er⟩:=q
      dsimp only at P1 P2 hok2
      repeat (first|((first|(apply Lq.s;rfl)|apply PRun.s|(apply Lq.run;rfl;rfl;rfl;exact bsB)|(apply PRun.run;rfl;rfl;exact bsB));first|(apply op_len (xs:=l);rfl)|(apply op_len (xs:=full);rfl)|(apply op_iaddr stepT.toTy (x:=s);rfl;rfl;exact Int.natCast_nonneg _;(rw [Int.toNat_natCast];exact hs))|(apply op_load stepT;rfl)|(exact bsO))|refine bsA ?_|(apply Lq.al;rfl;rfl;intro b)|(apply Open.cons;intro b)|refine bsC ?_)
      refine Lq.callS (Δ0:=D) (Δf:=E0) (P1 D hV) rfl bsD (List.Perm.refl _) ?_
      rintro _ D2 ⟨rfl,hV2⟩
      repeat (first|((first|(apply Lq.s;rfl)|apply PRun.s|(apply Lq.run;rfl;rfl;rfl;exact bsB)|(apply PRun.run;rfl;rfl;exact bsB));first|(apply op_iaddr stepT.toTy (x:=s);rfl;rfl;exact Int.natCast_nonneg _;(rw [Int.toNat_natCast];exact hs))|(apply op_load stepT;rfl)|(exact bsO))|refine bsA ?_|(apply Lq.al;rfl;rfl;intro b)|(apply Open.cons;intro b)|refine bsC ?_)
      refine Lq.callS (Δ0:=E0) (Δf:=D2) (P2 E0 hE) rfl bsD List.perm_append_comm ?_
      rintro _ E2 ⟨rfl,hE2⟩
      refine Lq.perm (Δ':=D2++E2) List.perm_append_comm ?_
      repeat (first|((first|(apply Lq.s;rfl)|apply PRun.s|(apply Lq.run;rfl;rfl;rfl;exact bsB)|(apply PRun.run;rfl;rfl;exact bsB));first|(apply op_neq_f;rfl;rfl;rfl)|(apply op_sneF (a:=[]) (b:=[]);rfl;rfl;rfl)|(exact bsO))|refine bsA ?_|(apply Lq.al;rfl;rfl;intro b)|(apply Open.cons;intro b)|refine bsC ?_)
      refine Lq.wanted rfl rfl rfl ?_
      refine Lq.callS (Δ0:=D2++E2) (Δf:=[]) (same_mV (B:=B) (W:=W) hok2 (D2++E2) (star_mk hV2 hE2)) rfl bsD (by rw [List.append_nil]) ?_
      rintro _ Δ3 ⟨rfl,D3,E3,hV3,hE3,hp3⟩
      rw [List.append_nil]
      refine Lq.perm hp3 ?_
      repeat (first|((first|(apply Lq.s;rfl)|apply PRun.s|(apply Lq.run;rfl;rfl;rfl;exact bsB)|(apply PRun.run;rfl;rfl;exact bsB));first|(exact bsO))|refine bsA ?_|(apply Lq.al;rfl;rfl;intro b)|(apply Open.cons;intro b)|refine bsC ?_)
      exact E.again (i+1,m2,D3,E3) (by dsimp only;omega) ⟨by dsimp only;omega,hV3,hok2,hE3⟩ (Sub.same (by repeat' (first|exact trivial|refine ⟨rfl,?_⟩)))
  · obtain rfl:i=l.length:=by omega
    repeat (first|((first|(apply Lq.s;rfl)|apply PRun.s|(apply Lq.run;rfl;rfl;rfl;exact bsB)|(apply PRun.run;rfl;rfl;exact bsB));first|(apply op_len (xs:=l);rfl)|(apply op_call lives26_fn;exact bsD)|(exact bsO))|refine bsA ?_|(apply Lq.al;rfl;rfl;intro b)|(apply Open.cons;intro b)|refine bsC ?_)
    (refine J.ret ?_;(repeat (first|refine E.then_ret ?_|refine E.in_ret ?_)))
    exact E.ret1 rfl rfl
end Go.Proofs.YtljbbajelkkafaaDoor.L
