/-
  How a law's arguments,that read as data,are typed values of the logic;and the last step of a law's statement.
-/
import Derived.Test.YtljbbajelkkafaaDoorRows
import Derived.ProofKit
import Derived.OpenShut
import Derived.Carry
import Derived.Test.YtljbbajelkkafaaDoorDt
set_option linter.unusedVariables false
set_option linter.unusedSimpArgs false
namespace Go.Proofs.YtljbbajelkkafaaDoor.L
open Go Go.RowKit Go.WideShapes Go.ChangeShapes Go.ChangeAt
set_option linter.unusedSectionVars false
variable [Globs]

def fullH (W:World):IH:=fun b o=>W.cell? ⟨b,o,none⟩
theorem sat_full (W:World) (hg:Gk (fullH W)):Sat (fullH W) W:=⟨hg,fun _ _ _ h=>h⟩
theorem gk_none {H:IH} (h:globs=[]):Gk H:=fun g cs hm=>by rw [h] at hm;cases hm
theorem cellsOf_of {P:Program} {t n:Nat} [h:TSz P t n]:P.cellsOf t=n:=by
  obtain ⟨i,hi,hn⟩:=Option.map_eq_some_iff.1 h.h
  simp [Program.cellsOf,hi,hn]
/-- What reads as a datum of type t is a value of T that meets V. -/
structure Rd (P:Program) (t:Nat) {α:Type} (T:Td α) (V:α→Prop):Prop where
  h : ∀ {H:Type} (enc:TypeId × Value→H) (W:World) (fuel:Nat) (cs:List Value) (d:DataW H) (ps:List MemPlace),DataW.trod enc P W 0 (fun _=>true) true fuel t cs=some (d,ps) → ∃ x,V x∧All2 (fun φ c=>φ.c (fullH W) c) (T.cells x) cs
theorem mapM_mem {α β:Type} {f:α→Option β} : ∀ {l:List α} {r:List β},l.mapM f=some r → ∀ x ∈ l, ∃ y,f x=some y
  | [],r,h,x,hx=>by cases hx
  | a::l,r,h,x,hx=>by
    rw [List.mapM_cons] at h
    cases ha:f a with
    | none=>rw [ha] at h;cases h
    | some y =>
      rw [ha] at h
      cases hl:l.mapM f with
      | none=>rw [hl] at h;cases h
      | some r' =>
        rcases List.mem_cons.1 hx with rfl|hx
        · exact ⟨y,ha⟩
        · exact mapM_mem hl x hx
section
variable {P:Program} {t:Nat}
theorem Rd.int {k:IntKind} [hk:TInt P t k]:Rd P t (intT k) fun n=>(Lit.int k n).wf=true:=⟨fun enc W fuel cs d ps h=>by
  cases fuel with
  | zero=>cases h
  | succ fuel =>
    unfold DataW.trod at h
    rw [hk.h] at h
    split at h
    all_goals (first|(cases h;done)|(rename_i h1 h2;cases h1;done)|(rename_i h1;cases h1))
    split at h
    · rename_i hc
      obtain ⟨rfl,hw⟩:=hc
      exact ⟨_,hw,⟨rfl,rfl⟩,trivial⟩
    · cases h⟩
theorem Rd.u32 [hk:TInt P t .u32]:Rd P t u32T fun n=>n < 4294967296:=⟨fun enc W fuel cs d ps h=>by
  obtain ⟨x,hx,hcs⟩:=(Rd.int (k := .u32)).h enc W fuel cs d ps h
  simp only [Lit.wf,IntKind.min,IntKind.max,IntKind.signed,IntKind.bits,Bool.and_eq_true,decide_eq_true_eq] at hx
  refine ⟨x.toNat,by simp at hx;omega,?_⟩
  have e:((x.toNat:Nat):Int)=x:=by simp at hx;omega
  have:u32T.cells x.toNat=(intT .u32).cells x:=by show [is (.int .u32 ((x.toNat:Nat):Int))]=_;rw [e];rfl
  rw [this]
  exact hcs⟩
theorem Rd.u16 [hk:TInt P t .u16]:Rd P t (intT .u16) fun n=>0≤n∧n < 65536:=⟨fun enc W fuel cs d ps h=>by
  obtain ⟨x,hx,hcs⟩:=(Rd.int (k := .u16)).h enc W fuel cs d ps h
  simp only [Lit.wf,IntKind.min,IntKind.max,IntKind.signed,IntKind.bits,Bool.and_eq_true,decide_eq_true_eq] at hx
  exact ⟨x,by simp at hx;omega,hcs⟩⟩
theorem Rd.u8 [hk:TInt P t .u8]:Rd P t u8T fun _=>True:=⟨fun enc W fuel cs d ps h=>by
  obtain ⟨x,hx,hcs⟩:=(Rd.int (k := .u8)).h enc W fuel cs d ps h
  simp only [Lit.wf,IntKind.min,IntKind.max,IntKind.signed,IntKind.bits,Bool.and_eq_true,decide_eq_true_eq] at hx
  refine ⟨UInt8.ofNat x.toNat,trivial,?_⟩
  have e:(((UInt8.ofNat x.toNat).toNat:Nat):Int)=x:=by
    simp at hx
    rw [UInt8.toNat_ofNat']
    omega
  have:u8T.cells (UInt8.ofNat x.toNat)=(intT .u8).cells x:=by show [is (.int .u8 (((UInt8.ofNat x.toNat).toNat:Nat):Int))]=_;rw [e];rfl
  rw [this]
  exact hcs⟩
theorem Rd.i64 [hk:TInt P t .i64]:Rd P t (intT .i64) fun n => -9223372036854775808≤n∧n≤9223372036854775807:=⟨fun enc W fuel cs d ps h=>by
  obtain ⟨x,hx,hcs⟩:=(Rd.int (k := .i64)).h enc W fuel cs d ps h
  simp only [Lit.wf,IntKind.min,IntKind.max,IntKind.signed,IntKind.bits,Bool.and_eq_true,decide_eq_true_eq] at hx
  exact ⟨x,by simp at hx;omega,hcs⟩⟩
theorem Rd.bool [hk:TBool P t]:Rd P t boolT fun _=>True:=⟨fun enc W fuel cs d ps h=>by
  cases fuel with
  | zero=>cases h
  | succ fuel =>
    unfold DataW.trod at h
    rw [hk.h] at h
    split at h
    all_goals (first|(cases h;done)|(rename_i h1 h2;cases h1;done)|(rename_i h1;cases h1))
    all_goals exact ⟨_,trivial,⟨rfl,rfl⟩,trivial⟩⟩
theorem Rd.str [hk:TStr P t]:Rd P t strT fun s=>s.length≤maxLen:=⟨fun {H} enc W fuel cs d ps h=>by
  cases fuel with
  | zero=>cases h
  | succ fuel =>
    unfold DataW.trod at h
    rw [hk.h] at h
    rcases cs with _|⟨v,_|⟨v2,cs⟩⟩
    · exact absurd (show (none:Option (DataW H × List MemPlace))=some (d,ps) from h) (by simp)
    · cases v with
      | string s =>
        replace h:(if s.size≤maxLen then some (DataW.lit (.string s.data.toList),[]) else none)=some (d,ps):=h
        split at h
        · rename_i hc
          exact ⟨s.data.toList,by simpa using hc,⟨rfl,rfl⟩,trivial⟩
        · cases h
      | _=>exact absurd (show (none:Option (DataW H × List MemPlace))=some (d,ps) from h) (by simp)
    · exact absurd (show (none:Option (DataW H × List MemPlace))=some (d,ps) from by cases v <;> exact h) (by simp)⟩
theorem range_all {α:Type} (Q:Nat→α→Prop) : ∀ n,(∀ i,i < n → ∃ x,Q i x) → ∃ xs:List α,xs.length=n ∧ ∀ i x,xs[i]?=some x→Q i x
  | 0,_=>⟨[],rfl,fun i x h=>by simp at h⟩
  | n+1,h=>by
    obtain ⟨xs,hl,hx⟩:=range_all Q n fun i hi=>h i (by omega)
    obtain ⟨y,hy⟩:=h n (by omega)
    refine ⟨xs++[y],by simp [hl],fun i x hi=>?_⟩
    by_cases hin:i < n
    · rw [List.getElem?_append_left (by omega)] at hi
      exact hx i x hi
    · have:i=n:=by
        have:=(List.getElem?_eq_some_iff.1 hi).1
        simp [hl] at this;omega
      subst this
      rw [List.getElem?_append_right (by omega),hl,Nat.sub_self] at hi
      simp at hi;subst hi;exact hy
theorem flat_at {α:Type} (T:Ty α) (hs:0 < T.sz) {xs:List α} {i:Nat} {φ:Pr} (h:(flat T xs)[i]?=some φ) : ∃ x,xs[i / T.sz]?=some x∧(T.cells x)[i % T.sz]?=some φ:=by
  have hlt:=(List.getElem?_eq_some_iff.1 h).1
  rw [flat_len] at hlt
  have hq:i / T.sz < xs.length:=by rw [Nat.div_lt_iff_lt_mul hs];exact hlt
  refine ⟨xs[i / T.sz],List.getElem?_eq_getElem hq,?_⟩
  rw [← flat_get T xs (i / T.sz) (i % T.sz) _ (List.getElem?_eq_getElem hq) (Nat.mod_lt _ hs),Nat.mul_comm,Nat.div_add_mod]
  exact h
theorem Rd.slice {α:Type} {T:Td α} {V:α→Prop} {e:Nat} [hk:TSl P t e] [TSz P e T.sz] (he:Rd P e T V):Rd P t (slT T) fun xs=>xs.length≤maxLen ∧ ∀ x ∈ xs,V x:=⟨fun enc W fuel cs d ps h=>by
  cases fuel with
  | zero=>cases h
  | succ fuel =>
    unfold DataW.trod at h
    rw [hk.h] at h
    split at h
    all_goals (first|(cases h;done)|(rename_i h1 h2;cases h1;done)|(rename_i h1;cases h1;done)|skip)
    · exact ⟨[],⟨by unfold maxLen;simp,by simp⟩,⟨⟨none,0,rfl,Nat.le_refl _,by unfold maxLen;simp,fun _=>rfl,fun h=>absurd h (Nat.lt_irrefl _)⟩,rfl⟩,trivial⟩
    · rename_i e' a len cap h1
      cases h1
      simp only [] at h
      split at h
      · rename_i hc
        obtain ⟨_,hlc,hcm⟩:=hc
        obtain ⟨elems,hel,_⟩:=Option.bind_eq_some_iff.1 h
        have hall:=mapM_mem hel
        rw [cellsOf_of (t:=e) (n:=T.sz)] at hall
        obtain ⟨xs,hxl,hxs⟩:=range_all (fun i x=>V x ∧ ∀ j φ,(T.cells x)[j]?=some φ → ∃ c,W.cell? ((a.add (i*T.sz)).add j)=some c∧φ.c (fullH W) c) len fun i hi=>by
          obtain ⟨y,hy⟩:=hall i (List.mem_range.2 hi)
          obtain ⟨ci,hci,htr⟩:=Option.bind_eq_some_iff.1 hy
          obtain ⟨x,hV,hx⟩:=he.h enc W fuel ci y.1 y.2 htr
          refine ⟨x,hV,fun j φ hj=>?_⟩
          obtain ⟨c,hc,hφ⟩:=hx.get j φ hj
          refine ⟨c,?_,hφ⟩
          unfold World.cells? at hci
          rw [if_pos (Nat.zero_le _)] at hci
          have hjl:j < T.sz:=by rw [← T.len x];exact (List.getElem?_eq_some_iff.1 hj).1
          obtain ⟨v,hv⟩:=mapM_mem hci j (List.mem_range.2 hjl)
          have:ci[j]?=W.cell? ((a.add (i*T.sz)).add j):=by
            have hm : ∀ (l:List Nat) (r:List Value),l.mapM (fun i'=>W.cell? ((a.add (i*T.sz)).add i'))=some r → ∀ (j n:Nat),l[j]?=some n→r[j]?=W.cell? ((a.add (i*T.sz)).add n):=by
              intro l
              induction l with
              | nil=>intro r _ j n hn;simp at hn
              | cons m l ih =>
                intro r hr j n hn
                rw [List.mapM_cons] at hr
                cases hm:W.cell? ((a.add (i*T.sz)).add m) with
                | none=>rw [hm] at hr;cases hr
                | some u =>
                  rw [hm] at hr
                  cases hl:l.mapM (fun i'=>W.cell? ((a.add (i*T.sz)).add i')) with
                  | none=>rw [hl] at hr;cases hr
                  | some r' =>
                    rw [hl] at hr
                    cases hr
                    cases j with
                    | zero=>simp at hn;subst hn;simp [hm]
                    | succ j=>simpa using ih r' hl j n (by simpa using hn)
            exact hm _ _ hci j j (by simp [hjl])
          rw [← this];exact hc
        refine ⟨xs,⟨by omega,fun x hx=>?_⟩,⟨⟨some a,cap,by rw [hxl],by omega,hcm,fun h=>(by cases h),fun hpos=>?_⟩,rfl⟩,trivial⟩
        · obtain ⟨i,hi,rfl⟩:=List.mem_iff_getElem.1 hx
          exact (hxs i _ (List.getElem?_eq_getElem hi)).1
        · obtain ⟨b,o,spot⟩:=a
          have hp0:0 < T.sz:=T.pos
          have hspot:spot=none:=by
            obtain ⟨_,h0⟩:=hxs 0 xs[0] (List.getElem?_eq_getElem hpos)
            obtain ⟨c,hc,_⟩:=h0 0 _ (List.getElem?_eq_getElem (by rw [T.len];exact hp0))
            rw [Nat.zero_mul] at hc
            simp only [Addr.add,if_true] at hc
            cases spot with
            | none=>rfl
            | some k =>
              exfalso
              unfold World.cell? at hc
              split at hc
              · simp at hc
              · cases hc
          subst hspot
          refine ⟨b,o,rfl,fun i φ hi=>?_⟩
          obtain ⟨x,hx,hφ⟩:=flat_at T.toTy hp0 hi
          obtain ⟨c,hc,hφc⟩:=(hxs _ x hx).2 _ φ hφ
          refine ⟨c,?_,hφc⟩
          rw [add_at,add_at] at hc
          have e:o+i / T.sz*T.sz+i % T.sz=o+i:=by rw [Nat.add_assoc,Nat.mul_comm,Nat.div_add_mod]
          rw [e] at hc
          exact hc
      · cases h⟩
theorem Rd.arr {α:Type} {T:Td α} {V:α→Prop} {n e:Nat} (hn:0 < n) [hk:TArr P t n e] [TSz P e T.sz] [TSz P t (n*T.sz)] (he:Rd P e T V):Rd P t (arrT n T hn) fun xs => ∀ x ∈ xs.1,V x:=⟨fun enc W fuel cs d ps h=>by
  cases fuel with
  | zero=>cases h
  | succ fuel =>
    unfold DataW.trod at h
    rw [hk.h] at h
    replace h:(if cs.length=P.cellsOf t then ((List.range n).mapM fun i=>DataW.trod enc P W 0 (fun _=>true) true fuel e ((cs.drop (i*P.cellsOf e)).take (P.cellsOf e))).map fun xs=>(DataW.agg (xs.map (·.1)),xs.flatMap (·.2)) else none)=some (d,ps):=h
    split at h
    · rename_i hl
      rw [cellsOf_of (t:=t) (n:=n*T.sz)] at hl
      obtain ⟨elems,hel,_⟩:=Option.map_eq_some_iff.1 h
      have hall:=mapM_mem hel
      rw [cellsOf_of (t:=e) (n:=T.sz)] at hall
      obtain ⟨xs,hxl,hxs⟩:=range_all (fun i x=>V x∧All2 (fun φ c=>φ.c (fullH W) c) (T.cells x) ((cs.drop (i*T.sz)).take T.sz)) n fun i hi=>by
        obtain ⟨y,hy⟩:=hall i (List.mem_range.2 hi)
        exact he.h enc W fuel _ y.1 y.2 hy
      refine ⟨⟨xs,hxl⟩,fun x hx=>?_,?_⟩
      · obtain ⟨i,hi,rfl⟩:=List.mem_iff_getElem.1 hx
        exact (hxs i _ (List.getElem?_eq_getElem hi)).1
      · refine All2.of_get (by show (flat T.toTy xs).length=_;rw [flat_len,hxl,hl]) fun i φ c hi hc=>?_
        obtain ⟨x,hx,hφ⟩:=flat_at T.toTy T.pos hi
        obtain ⟨c',hc',hφc⟩:=((hxs _ x hx).2).get _ φ hφ
        rw [List.getElem?_take,if_pos (Nat.mod_lt _ T.pos),List.getElem?_drop,Nat.mul_comm,Nat.div_add_mod,hc] at hc'
        injection hc' with hc'
        subst hc'
        exact hφc
    · cases h⟩
/-- The parts of a struct that reads as data. -/
theorem Rd.hash {e:Nat} [TArr P t 32 e] [TSz P e 1] [TInt P e .u8] [TSz P t 32]:Rd P t hashT fun _=>True:=⟨fun enc W fuel cs d ps h=>by
  haveI:TSz P e u8T.sz:=(inferInstance:TSz P e 1)
  haveI:TSz P t (32*u8T.sz):=(inferInstance:TSz P t 32)
  obtain ⟨x,_,hx⟩:=(Rd.arr (T:=u8T) (by decide) Rd.u8).h enc W fuel cs d ps h
  exact ⟨x,trivial,hx⟩⟩
theorem trod_struct {H:Type} {enc:TypeId × Value→H} {W:World} {fuel n:Nat} {cs:List Value} {d:DataW H} {ps:List MemPlace} {fs:Array Field} (hu:P.underlying t=some (.struct fs)) [TSz P t n] (h:DataW.trod enc P W 0 (fun _=>true) true fuel t cs=some (d,ps)) :
    cs.length=n ∧ ∀ f ∈ fs.toList, ∃ fuel' y,DataW.trod enc P W 0 (fun _=>true) true fuel' f.type ((cs.drop f.offset).take (P.cellsOf f.type))=some y:=by
  cases fuel with
  | zero=>cases h
  | succ fuel =>
    unfold DataW.trod at h
    rw [hu] at h
    replace h:(if cs.length=P.cellsOf t then (fs.toList.mapM fun f=>DataW.trod enc P W 0 (fun _=>true) true fuel f.type ((cs.drop f.offset).take (P.cellsOf f.type))).map fun xs=>(DataW.agg (xs.map (·.1)),xs.flatMap (·.2)) else none)=some (d,ps):=h
    split at h
    · rename_i hl
      rw [cellsOf_of (t:=t) (n:=n)] at hl
      obtain ⟨elems,hel,_⟩:=Option.map_eq_some_iff.1 h
      exact ⟨hl,fun f hf=>let ⟨y,hy⟩:=mapM_mem hel f hf;⟨fuel,y,hy⟩⟩
    · cases h
theorem Rd.fld {α:Type} {T:Td α} {V:α→Prop} {H:Type} {enc:TypeId × Value→H} {W:World} {fuel n i off ft:Nat} {cs:List Value} {d:DataW H} {ps:List MemPlace} (he:Rd P ft T V) [hf:TFld P t i off ft] [TSz P t n] [TSz P ft T.sz]
    (h:DataW.trod enc P W 0 (fun _=>true) true fuel t cs=some (d,ps)) : ∃ x,V x∧All2 (fun φ c=>φ.c (fullH W) c) (T.cells x) ((cs.drop off).take T.sz):=by
  obtain ⟨fs,f,hu,hfi,hoff,hft⟩:=hf.h
  obtain ⟨_,hall⟩:=trod_struct (n:=n) hu h
  obtain ⟨fuel',y,hy⟩:=hall f (by
    rw [Array.mem_toList_iff]
    exact Array.mem_of_getElem? hfi)
  rw [hoff,hft,cellsOf_of (t:=ft) (n:=T.sz)] at hy
  exact he.h enc W fuel' _ y.1 y.2 hy
theorem Rd.lenOf {H:Type} {enc:TypeId × Value→H} {W:World} {fuel n i off ft:Nat} {cs:List Value} {d:DataW H} {ps:List MemPlace} [hf:TFld P t i off ft] [TSz P t n] (h:DataW.trod enc P W 0 (fun _=>true) true fuel t cs=some (d,ps)):cs.length=n:=by
  obtain ⟨fs,f,hu,_⟩:=hf.h
  exact (trod_struct (n:=n) hu h).1

/-! ### Whole values -/
theorem Rd.agg {α:Type} {T:Td α} {V:α→Prop} (h:Rd P t T V) (hag:T.ag=true) [ht:TAg P t true] {H:Type} {enc:TypeId × Value→H} {W:World} {r:Reach} {b:Nat} {v:Value} {d:DataW H} {ps:List MemPlace} (hok:Value.okWide P W r b t v)
    (htr:DataW.Trod enc P W 0 (fun _=>true) true t v d ps) : ∃ x,V x∧(T.val x).h (fullH W) v:=by
  obtain ⟨fuel,htr⟩:=htr
  obtain ⟨x,hV,hx⟩:=h.h enc W fuel _ d ps htr
  refine ⟨x,hV,?_⟩
  obtain ⟨dd,hd,hb⟩:=ht.h
  unfold Value.okWide at hok
  rw [hd] at hok
  have : ∃ cs,v = .agg cs:=by
    cases dd <;> first|(obtain ⟨cs,hv,_⟩:=hok;exact ⟨cs,hv⟩)|(cases hb;done)
  obtain ⟨cs,rfl⟩:=this
  unfold Td.val
  rw [hag]
  exact ⟨cs.toList,by simp,hx⟩
theorem Rd.sc {α:Type} {T:Td α} {V:α→Prop} (h:Rd P t T V) (hag:T.ag=false) [ht:TAg P t false] {H:Type} {enc:TypeId × Value→H} {W:World} {r:Reach} {b:Nat} {v:Value} {d:DataW H} {ps:List MemPlace} (hok:Value.okWide P W r b t v)
    (htr:DataW.Trod enc P W 0 (fun _=>true) true t v d ps) : ∃ x,V x∧(T.val x).h (fullH W) v:=by
  obtain ⟨fuel,htr⟩:=htr
  obtain ⟨x,hV,hx⟩:=h.h enc W fuel _ d ps htr
  refine ⟨x,hV,?_⟩
  obtain ⟨dd,hd,hb⟩:=ht.h
  unfold Value.okWide at hok
  rw [hd] at hok
  have hv1 : ∀ cs,v ≠ .agg cs:=by
    intro cs hv
    subst hv
    cases dd <;> first
      | (cases hb;done)
      | (simp only [Cell.okWide,Cell.ok,hd] at hok;done)
      | (simp [Cell.okWide,Cell.ok,hd] at hok;done)
  have hv2:=T.inn hx
  rw [hag] at hv2
  have hl:=hx.length
  rw [T.len,T.one hag] at hl
  have:v.cells.toList.headD undef=v:=by
    cases v with
    | agg cs=>exact absurd rfl (hv1 cs)
    | _=>rfl
  simp only [Bool.false_eq_true,if_false,this] at hv2
  exact hv2
end

section
variable {H:Type} {enc:TypeId × Value→H} {P:Program}
theorem post_of_below {f:Func} {s:ChangeSpec} {apart fresh handsOn again:Bool} {W W':World} {args:Array Value} {v:Value} {ds gs:List (DataW H)} {before pa pv:List MemPlace}
    (hW:DataW.Whole enc P f.params.toList s.vars apart W args.toList ds gs before)
    (hres : ∀ (b:Nat) (sp:Nat→Bool) (hd:Bool),DataW.TrodAll enc P W' b sp hd f.resultTypes.toList (v.resultList f.resultTypes.size) (s.fn H (ds++gs)).results [])
    (hargs : ∀ sp:Nat→Bool,(∀ p ∈ before,sp p.block=true)→DataW.TrodAll enc P W' 0 sp true f.params.toList args.toList (s.fn H (ds++gs)).args pa)
    (hvars : ∀ sp:Nat→Bool,(∀ p ∈ before,sp p.block=true)→DataW.TrodVars enc P W' sp s.vars (s.fn H (ds++gs)).vars pv)
    (hps:before=pa++pv) (hb:Below W.heap.size W W')
    (hok : ∀ (j:Nat) (t:TypeId) (r:Value),f.resultTypes[j]?=some t→(v.resultList f.resultTypes.size)[j]?=some r→Value.okWide P W' .any 0 t r) :
    s.post enc P f apart fresh handsOn again W args v W':=by
  have hlt : ∀ p ∈ before,p.block < W.heap.size:=fun p hp=>hW.lt p hp
  have hold : ∀ p ∈ before,(fun b=>decide (b < W.heap.size)) p.block=true:=fun p hp=>by simpa using hlt p hp
  refine ⟨ds,gs,before,[],pa,pv,hW,hres _ _ _,hargs _ hold,hvars _ hold,World.keptBut_mono (fun p hp=>⟨hp,?_⟩) (hb.frame (· ∈ before)),fun _=>?_⟩
  · rw [hps,List.mem_append] at hp
    exact Or.inr hp
  · obtain ⟨_,_,_,_,_,hz,hn⟩:=hW
    refine ⟨hok,_,_,([]++pa)++pv,⟨[]++pa,pv,trodAll_append (hargs _ (fun _ _=>rfl)) (hres _ _ _),hvars _ (fun _ _=>rfl),rfl,?_,?_⟩,?_⟩
    · intro b off hp
      have hin:MemPlace.cell b off ∈ before:=by rw [hps];simpa using hp
      rw [hb.frozen (hlt _ hin)]
      exact hz b off hin
    · intro ha
      have:=hn ha
      rw [hps] at this
      simpa using this
    · intro p hp _
      rw [hps]
      simpa using hp
/-- Arguments that nobody wrote read as they did. -/
theorem trodAll_stays (hl:laidOutB P=true) {W W':World} (hb:Below W.heap.size W W') {sp:Nat→Bool} : ∀ (ts:List TypeId) (vs:List Value) (ds:List (DataW H)) (ps:List MemPlace),ts.all (fun t=>P.readableRec t && decide (t < P.types.size))=true →
    DataW.TrodAll enc P W 0 (fun _=>true) true ts vs ds ps→(∀ x ∈ ps,x.block < W.heap.size)→(∀ x ∈ ps,sp x.block=true)→DataW.TrodAll enc P W' 0 sp true ts vs ds ps
  | [],[],[],ps,_,h,_,_=>h
  | t::ts,v::vs,d::ds,ps,hr,⟨p,q,h1,h2,e⟩,hlt,hsp=>by
    subst e
    rw [List.all_cons,Bool.and_eq_true,Bool.and_eq_true] at hr
    refine ⟨p,q,WideElems.Trod_stays hl hr.1.1 (of_decide_eq_true hr.1.2) h1 (fun x hx=>hb.same (hlt x (by simp [hx]))) (fun x hx=>hsp x (by simp [hx])),?_,rfl⟩
    exact trodAll_stays hl hb ts vs ds q hr.2 h2 (fun x hx=>hlt x (by simp [hx])) (fun x hx=>hsp x (by simp [hx]))
  | [],_::_,_,_,_,h,_,_=>h.elim
  | [],[],_::_,_,_,h,_,_=>h.elim
  | _::_,[],_,_,_,h,_,_=>h.elim
  | _::_,_::_,[],_,_,h,_,_=>h.elim
end
end Go.Proofs.YtljbbajelkkafaaDoor.L
