/-
  The law ModelMany.
-/
import Derived.Test.YtljbbajelkkafaaDoorMzf
namespace Go.Proofs.YtljbbajelkkafaaDoor.L
open Go
set_option linter.unusedSectionVars false
variable [Globs] [Has_sha_table] [Has_sha_begin]
set_option linter.unusedVariables false
theorem J.midG {α:Type} {C:Cx} {Γ:Env} {Δ:List Res} {Q:Exit→Act→World→Prop} {c:Code} {id:Nat} {K:Act→World→Prop} (V:α→Prop) (I:α→Env) (R:α→List Res) (h1:J C Γ Δ c (Exit.inBlock id (Exit.then (Mid C V I R) Q))) (h2 : ∀ x,V x→E C .normal (I x) (R x) (Exit.then K Q)):J C Γ Δ c (Exit.inBlock id (Exit.then K Q)):=fun H a w S =>
  wpIn_mono (h1 H a w S) fun e a' w' h=>by
    cases e with
    | normal =>
      obtain ⟨x,H',hV,S'⟩:=h
      exact h2 x hV H' a' w' S'
    | exit id' =>
      have h:(if id'=id then Exit.then (Mid C V I R) Q .normal a' w' else Exit.then (Mid C V I R) Q (.exit id') a' w'):=h
      show (if id'=id then Exit.then K Q .normal a' w' else Exit.then K Q (.exit id') a' w')
      by_cases he:id'=id
      · rw [if_pos he] at h ⊢
        obtain ⟨x,H',hV,S'⟩:=h
        exact h2 x hV H' a' w' S'
      · rw [if_neg he] at h ⊢
        exact h
    | _=>exact h
variable [Has_ref02_k]
def stepK (k n:Int) (x:Str):StepS:=⟨k,n,x,[],[]⟩
def manyL (n:Nat):List StepS:=[stepK 1 0 [],stepK 2 0 [],stepK 4 0 [97]]++(List.range n).map fun (j:Nat)=>stepK 7 (j:Int) [97]
theorem manyL_len (n:Nat):(manyL n).length=n+3:=by unfold manyL;rw [List.length_append,List.length_map,List.length_range];show 3+n=_;omega
theorem manyL_succ (n:Nat):manyL n++[stepK 7 (n:Int) [97]]=manyL (n+1):=by
  unfold manyL
  rw [List.range_succ,List.map_append,List.append_assoc];rfl
theorem manyL_ok {n:Nat} : ∀ s ∈ manyL n++[stepK 5 0 [97],stepK 6 0 [],stepK 5 0 [97]],s.text.length≤400∧s.name.length≤400:=by
  have key : ∀ k n x,x.length≤400→(stepK k n x).text.length≤400∧(stepK k n x).name.length≤400:=fun k n x h=>⟨Nat.zero_le _,h⟩
  intro s hs
  rcases List.mem_append.1 hs with h|h
  · unfold manyL at h
    rcases List.mem_append.1 h with h|h
    · rcases List.mem_cons.1 h with rfl|h
      · exact key _ _ _ (by decide)
      rcases List.mem_cons.1 h with rfl|h
      · exact key _ _ _ (by decide)
      rw [List.mem_singleton] at h;subst h
      exact key _ _ _ (by decide)
    · obtain ⟨j,_,rfl⟩:=List.mem_map.1 h
      exact key _ _ _ (by decide)
  · rcases List.mem_cons.1 h with rfl|h
    · exact key _ _ _ (by decide)
    rcases List.mem_cons.1 h with rfl|h
    · exact key _ _ _ (by decide)
    rw [List.mem_singleton] at h;subst h
    exact key _ _ _ (by decide)
set_option linter.unusedVariables false
set_option linter.unusedSimpArgs false
attribute [local irreducible] J Lq E OpP PRun is any agg tup ptr sl PRunW OpE
attribute [local irreducible] slt row leafH shaH docR docL OpR dst fsL mdV recsR stL mdl mdC fsR manyL
set_option maxRecDepth 100000 in
set_option maxHeartbeats 32000000 in
theorem modelMany (many:UInt8) (_h:True):Fn Tryd.prog 6 [is (.int .u8 (many.toNat:Int))] (is (.bool true)):=by
  have hu8:many.toNat < 256:=many.toNat_lt
  refine Fn.mk' 75 Tryd.func6 rfl rfl rfl rfl fun w0 H0=>?_
  repeat (first|((first|(apply Lq.s;rfl)|apply PRun.s|(apply Lq.run;rfl;rfl;rfl;exact bsB)|(apply PRun.run;rfl;rfl;exact bsB));first|(exact bsO))|refine bsA ?_|(apply Lq.al;rfl;rfl;intro b)|(apply Open.cons;intro b)|refine bsC ?_)
  refine Lq.callS (Δ0:=[]) (Δf:=[]) mnew_fnR rfl bsD (List.Perm.refl _) ?_
  rintro _ D ⟨B,rfl,hV⟩
  rw [List.append_nil]
  repeat (first|((first|(apply Lq.s;rfl)|apply PRun.s|(apply Lq.run;rfl;rfl;rfl;exact bsB)|(apply PRun.run;rfl;rfl;exact bsB));first|(exact bsO))|refine bsA ?_|(apply Lq.al;rfl;rfl;intro b)|(apply Open.cons;intro b)|refine bsC ?_)
  refine Lq.callS (Δ0:=[]) (Δf:=D) dnew_fnR rfl bsD (List.Perm.refl _) ?_
  rintro _ E0 ⟨W,rfl,hE⟩
  refine Lq.perm (Δ':=D++E0) List.perm_append_comm ?_
  repeat (first|((first|(apply Lq.s;rfl)|apply PRun.s|(apply Lq.run;rfl;rfl;rfl;exact bsB)|(apply PRun.run;rfl;rfl;exact bsB));first|(exact bsO))|refine bsA ?_|(apply Lq.al;rfl;rfl;intro b)|(apply Open.cons;intro b)|refine bsC ?_)
  refine Lq.conv 15 rfl (ψ:=stepT.val (stepK 1 0 [])) (agg_convM (sp26_conv [] 1 0 [])) ?_
  refine Lq.conv 16 rfl (ψ:=stepT.val (stepK 2 0 [])) (agg_convM (sp26_conv [] 2 0 [])) ?_
  refine Lq.conv 17 rfl (ψ:=stepT.val (stepK 4 0 [97])) (agg_convM (sp26_conv [97] 4 0 [])) ?_
  (apply Lq.bsl (T:=stepT) (xs:=[stepK 1 0 [],stepK 2 0 [],stepK 4 0 [97]]);rfl;(repeat (first|exact PO.nil _|(apply PO.cons;rfl)));rfl;rfl;rfl)
  intro A1 c1
  have hm0:manyL 0=[stepK 1 0 [],stepK 2 0 [],stepK 4 0 [97]]:=by unfold manyL;rfl
  rw [← hm0]
  repeat (first|((first|(apply Lq.s;rfl)|apply PRun.s|(apply Lq.run;rfl;rfl;rfl;exact bsB)|(apply PRun.run;rfl;rfl;exact bsB));first|(exact bsO))|refine bsA ?_|(apply Lq.al;rfl;rfl;intro b)|(apply Open.cons;intro b)|refine bsC ?_)
  refine J.midG (fun p:Option Addr × Nat=>True) (fun p=>[(3,is (.pointer (some ⟨B,0,none⟩))),(4,is (.pointer (some ⟨W,0,none⟩))),(5,is (.slice p.1 (manyL many.toNat).length p.2))]) (fun p=>row (.slice p.1 (manyL many.toNat).length p.2) 29 stepT.toTy (manyL many.toNat)::(D++E0)) ?_ ?_
  · refine J.loop (fun p:Nat × Option Addr × Nat=>p.1≤many.toNat) (fun p=>[(0,is (.int .u8 (many.toNat:Int))),(3,is (.pointer (some ⟨B,0,none⟩))),(4,is (.pointer (some ⟨W,0,none⟩))),(5,is (.slice p.2.1 (manyL p.1).length p.2.2)),(6,is (.int .i64 (p.1:Int)))]) (fun p=>row (.slice p.2.1 (manyL p.1).length p.2.2) 29 stepT.toTy (manyL p.1)::(D++E0)) (fun p=>many.toNat - p.1) (0,A1,c1) (Nat.zero_le _) (Sub.same (by repeat' (first|exact trivial|refine ⟨rfl,?_⟩))) ?_
    rintro ⟨i,A2,c2⟩ hi
    dsimp only at hi ⊢
    have hml:=manyL_len i
    by_cases hlt:i < many.toNat
    · repeat (first|((first|(apply Lq.s;rfl)|apply PRun.s|(apply Lq.run;rfl;rfl;rfl;exact bsB)|(apply PRun.run;rfl;rfl;exact bsB));first|(apply op_conv (c:=(many.toNat:Int));rfl;(apply wrapi <;> omega))|(exact bsO))|refine bsA ?_|(apply Lq.al;rfl;rfl;intro b)|(apply Open.cons;intro b)|refine bsC ?_)
      refine Lq.conv 27 rfl (ψ:=stepT.val (stepK 7 (i:Int) [97])) (agg_convM (sp26_conv [97] 7 (i:Int) [])) ?_
      repeat (first|((first|(apply Lq.s;rfl)|apply PRun.s|(apply Lq.run;rfl;rfl;rfl;exact bsB)|(apply PRun.run;rfl;rfl;exact bsB));first|(apply op_bslice stepT (xs:=[stepK 7 (i:Int) [97]]);(repeat (first|exact PO.nil _|(apply PO.cons;rfl)));rfl;rfl;rfl)|(exact bsO))|refine bsA ?_|(apply Lq.al;rfl;rfl;intro b)|(apply Open.cons;intro b)|refine bsC ?_)
      (apply Lq.append (T:=stepT) (xs:=manyL i) (ys:=[stepK 7 (i:Int) [97]]);rfl;exact List.Perm.refl _;(apply From.sl;rfl);rfl;rfl;rfl;(show _+1≤maxLen;unfold maxLen;omega);(show (_+1)*72≤_;omega))
      intro A3 c3
      rw [manyL_succ]
      repeat (first|((first|(apply Lq.s;rfl)|apply PRun.s|(apply Lq.run;rfl;rfl;rfl;exact bsB)|(apply PRun.run;rfl;rfl;exact bsB));first|(apply op_add (c:=((i+1:Nat):Int));rfl;rfl;(rw [show (i:Int)+1=((i+1:Nat):Int) by omega];apply wrapi <;> omega))|(exact bsO))|refine bsA ?_|(apply Lq.al;rfl;rfl;intro b)|(apply Open.cons;intro b)|refine bsC ?_)
      exact E.again (i+1,A3,c3) (by dsimp only;omega) (by dsimp only;omega) ⟨(by repeat' (first|exact trivial|refine ⟨rfl,?_⟩)),[],by dsimp only;rw [List.append_nil]⟩
    · obtain rfl:i=many.toNat:=by omega
      repeat (first|((first|(apply Lq.s;rfl)|apply PRun.s|(apply Lq.run;rfl;rfl;rfl;exact bsB)|(apply PRun.run;rfl;rfl;exact bsB));first|(apply op_conv (c:=(many.toNat:Int));rfl;(apply wrapi <;> omega))|(exact bsO))|refine bsA ?_|(apply Lq.al;rfl;rfl;intro b)|(apply Open.cons;intro b)|refine bsC ?_)
      exact E.mid (A2,c2) trivial (Sub.same (by repeat' (first|exact trivial|refine ⟨rfl,?_⟩)))
  rintro ⟨A2,c2⟩ _
  dsimp only
  have hml:=manyL_len many.toNat
  have hok3:=manyL_ok (n:=many.toNat)
  repeat (first|((first|(apply Lq.s;rfl)|apply PRun.s|(apply Lq.run;rfl;rfl;rfl;exact bsB)|(apply PRun.run;rfl;rfl;exact bsB));first|(exact bsO))|refine bsA ?_|(apply Lq.al;rfl;rfl;intro b)|(apply Open.cons;intro b)|refine bsC ?_)
  refine Lq.conv 31 rfl (ψ:=stepT.val (stepK 5 0 [97])) (agg_convM (sp26_conv [97] 5 0 [])) ?_
  refine Lq.conv 32 rfl (ψ:=stepT.val (stepK 6 0 [])) (agg_convM (sp26_conv [] 6 0 [])) ?_
  refine Lq.conv 33 rfl (ψ:=stepT.val (stepK 5 0 [97])) (agg_convM (sp26_conv [97] 5 0 [])) ?_
  repeat (first|((first|(apply Lq.s;rfl)|apply PRun.s|(apply Lq.run;rfl;rfl;rfl;exact bsB)|(apply PRun.run;rfl;rfl;exact bsB));first|(apply op_bslice stepT (xs:=[stepK 5 0 [97],stepK 6 0 [],stepK 5 0 [97]]);(repeat (first|exact PO.nil _|(apply PO.cons;rfl)));rfl;rfl;rfl)|(exact bsO))|refine bsA ?_|(apply Lq.al;rfl;rfl;intro b)|(apply Open.cons;intro b)|refine bsC ?_)
  (apply Lq.append (T:=stepT) (xs:=manyL many.toNat) (ys:=[stepK 5 0 [97],stepK 6 0 [],stepK 5 0 [97]]);rfl;exact List.Perm.refl _;(apply From.sl;rfl);rfl;rfl;rfl;(show _+3≤maxLen;unfold maxLen;omega);(show (_+3)*72≤_;omega))
  intro A3 c3
  obtain ⟨l,hl⟩ : ∃ l,l=manyL many.toNat++[stepK 5 0 [97],stepK 6 0 [],stepK 5 0 [97]]:=⟨_,rfl⟩
  have hll:l.length≤300:=by rw [hl,List.length_append,hml];show many.toNat+3+3≤300;omega
  rw [← hl] at hok3 ⊢
  refine Lq.freeze 35 rfl (List.Perm.refl _) ?_
  repeat (first|((first|(apply Lq.s;rfl)|apply PRun.s|(apply Lq.run;rfl;rfl;rfl;exact bsB)|(apply PRun.run;rfl;rfl;exact bsB));first|(exact bsO))|refine bsA ?_|(apply Lq.al;rfl;rfl;intro b)|(apply Open.cons;intro b)|refine bsC ?_)
  refine J.loop (fun p:Nat × MM × List Res × List Res=>p.1≤l.length∧mdV B p.2.1 p.2.2.1∧MOk p.2.1∧fsR W p.2.1 p.2.2.2) (fun p=>[(3,is (.pointer (some ⟨B,0,none⟩))),(4,is (.pointer (some ⟨W,0,none⟩))),(5,sl stepT.toTy l),(7,is (.int .i64 (p.1:Int)))]) (fun p=>p.2.2.1++p.2.2.2) (fun p=>l.length - p.1) (0,newMM,D,E0) ⟨Nat.zero_le _,hV,new_ok,hE⟩ (Sub.same (by repeat' (first|exact trivial|refine ⟨rfl,?_⟩))) ?_
  clear hV hE
  rintro ⟨i,m,D,E0⟩ ⟨hi,hV,hok,hE⟩
  dsimp only at hi hV hok hE ⊢
  by_cases hlt:i < l.length
  · obtain ⟨s,hs⟩ : ∃ x,l[i]?=some x:=⟨_,List.getElem?_eq_getElem hlt⟩
    obtain ⟨hst,hsn⟩:=hok3 s (List.mem_of_getElem? hs)
    have hok2:=do_ok hok s false
    have P1:=fun D hV=>mdoV (B:=B) s false hok D hV
    have P2:=fun E hE=>ddoV (W:=W) s false hok (by omega) (by omega) E hE
    generalize doM m s false=q at P1 P2 hok2
    obtain ⟨m2,nn,er⟩:=q
    dsimp only at P1 P2 hok2
    repeat (first|((first|(apply Lq.s;rfl)|apply PRun.s|(apply Lq.run;rfl;rfl;rfl;exact bsB)|(apply PRun.run;rfl;rfl;exact bsB));first|(apply op_len (xs:=l);rfl)|(apply op_iaddr stepT.toTy (x:=s);rfl;rfl;exact Int.natCast_nonneg _;(rw [Int.toNat_natCast];exact hs))|(apply op_load stepT;rfl)|(exact bsO))|refine bsA ?_|(apply Lq.al;rfl;rfl;intro b)|(apply Open.cons;intro b)|refine bsC ?_)
    refine Lq.callS (Δ0:=D) (Δf:=E0) (P1 D hV) rfl bsD (List.Perm.refl _) ?_
    rintro _ D2 ⟨rfl,hV2⟩
    repeat (first|((first|(apply Lq.s;rfl)|apply PRun.s|(apply Lq.run;rfl;rfl;rfl;exact bsB)|(apply PRun.run;rfl;rfl;exact bsB));first|(apply op_iaddr stepT.toTy (x:=s);rfl;rfl;exact Int.natCast_nonneg _;(rw [Int.toNat_natCast];exact hs))|(apply op_load stepT;rfl)|(exact bsO))|refine bsA ?_|(apply Lq.al;rfl;rfl;intro b)|(apply Open.cons;intro b)|refine bsC ?_)
    refine Lq.callS (Δ0:=E0) (Δf:=D2) (P2 E0 hE) rfl bsD List.perm_append_comm ?_
    rintro _ E2 ⟨rfl,hE2⟩
    refine Lq.perm (Δ':=D2++E2) List.perm_append_comm ?_
    repeat (first|((first|(apply Lq.s;rfl)|apply PRun.s|(apply Lq.run;rfl;rfl;rfl;exact bsB)|(apply PRun.run;rfl;rfl;exact bsB));first|(apply op_neq_f;rfl;rfl;rfl)|(apply op_sneF (a:=[]) (b:=[]);rfl;rfl;rfl)|(exact bsO))|refine bsA ?_|(apply Lq.al;rfl;rfl;intro b)|(apply Open.cons;intro b)|refine bsC ?_)
    exact E.again (i+1,m2,D2,E2) (by dsimp only;omega) ⟨by dsimp only;omega,hV2,hok2,hE2⟩ (Sub.same (by repeat' (first|exact trivial|refine ⟨rfl,?_⟩)))
  · obtain rfl:i=l.length:=by omega
    repeat (first|((first|(apply Lq.s;rfl)|apply PRun.s|(apply Lq.run;rfl;rfl;rfl;exact bsB)|(apply PRun.run;rfl;rfl;exact bsB));first|(apply op_len (xs:=l);rfl)|(exact bsO))|refine bsA ?_|(apply Lq.al;rfl;rfl;intro b)|(apply Open.cons;intro b)|refine bsC ?_)
    refine Lq.callS (Δ0:=D++E0) (Δf:=[]) (same_mV (B:=B) (W:=W) hok (D++E0) (star_mk hV hE)) rfl bsD (by rw [List.append_nil]) ?_
    rintro _ Δ3 ⟨rfl,D3,E3,hV3,hE3,hp3⟩
    rw [List.append_nil]
    repeat (first|((first|(apply Lq.s;rfl)|apply PRun.s|(apply Lq.run;rfl;rfl;rfl;exact bsB)|(apply PRun.run;rfl;rfl;exact bsB));first|(apply op_call lives26_fn;exact bsD)|(exact bsO))|refine bsA ?_|(apply Lq.al;rfl;rfl;intro b)|(apply Open.cons;intro b)|refine bsC ?_)
    (refine J.ret ?_;(repeat (first|refine E.then_ret ?_|refine E.in_ret ?_)))
    exact E.ret1 rfl rfl
end Go.Proofs.YtljbbajelkkafaaDoor.L
