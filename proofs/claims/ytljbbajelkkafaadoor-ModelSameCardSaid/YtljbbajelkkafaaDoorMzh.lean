/-
  Views,read as data: with what their sizes can be.
-/
import Derived.Test.YtljbbajelkkafaaDoorMq
namespace Go.Proofs.YtljbbajelkkafaaDoor.L
open Go Go.RowKit Go.WideShapes Go.ChangeShapes Go.ChangeAt
set_option linter.unusedSectionVars false
variable [Globs] [Has_sha_table] [Has_sha_begin]
set_option linter.unusedVariables false
/-- What reads as a datum that memory has room for is a value of T that meets V. -/
structure RdW (P:Program) (t:Nat) {α:Type} (T:Td α) (V:α→Prop):Prop where
  h : ∀ {H:Type} (enc:TypeId × Value→H) (W:World) (fuel:Nat) (cs:List Value) (d:DataW H) (ps:List MemPlace),DataW.trod enc P W 0 (fun _=>true) true fuel t cs=some (d,ps)→(d.weights P t).all (· ≤ reachBytes)=true → ∃ x,V x∧All2 (fun φ c=>φ.c (fullH W) c) (T.cells x) cs
section
variable {P:Program} {t:Nat}
theorem Rd.w {α:Type} {T:Td α} {V:α→Prop} (h:Rd P t T V):RdW P t T V:=⟨fun enc W fuel cs d ps hd _=>h.h enc W fuel cs d ps hd⟩
theorem mapM_memW {α β:Type} {f:α→Option β} : ∀ {l:List α} {r:List β},l.mapM f=some r→r.length=l.length ∧ ∀ x ∈ l, ∃ y ∈ r,f x=some y
  | [],r,h=>by
    rw [List.mapM_nil] at h
    injection h with h;subst h
    exact ⟨rfl,fun x hx=>by cases hx⟩
  | a::l,r,h=>by
    rw [List.mapM_cons] at h
    cases ha:f a with
    | none=>rw [ha] at h;cases h
    | some y =>
      rw [ha] at h
      cases hl:l.mapM f with
      | none=>rw [hl] at h;cases h
      | some r' =>
        rw [hl] at h
        injection h with h;subst h
        obtain ⟨h1,h2⟩:=mapM_memW hl
        refine ⟨by simp [h1],fun x hx=>?_⟩
        rcases List.mem_cons.1 hx with rfl|hx
        · exact ⟨y,by simp,ha⟩
        · obtain ⟨z,hz,hf⟩:=h2 x hx
          exact ⟨z,by simp [hz],hf⟩
theorem weightsAll_mem {H:Type} {e:Nat} : ∀ {l:List (DataW H)},(DataW.weightsAll P e l).all (· ≤ reachBytes)=true → ∀ d ∈ l,(d.weights P e).all (· ≤ reachBytes)=true
  | [],_,d,hd=>by cases hd
  | a::l,h,d,hd=>by
    unfold DataW.weightsAll at h
    rw [List.all_append,Bool.and_eq_true] at h
    rcases List.mem_cons.1 hd with rfl|hd
    · exact h.1
    · exact weightsAll_mem h.2 d hd
theorem weightsEach_mem {H:Type} {α:Type} {g:α→Nat} {f:α→Option (DataW H × List MemPlace)} : ∀ {l:List α} {r:List (DataW H × List MemPlace)},l.mapM f=some r→(DataW.weightsEach P (l.map g) (r.map (·.1))).all (· ≤ reachBytes)=true → ∀ x ∈ l, ∃ y,f x=some y∧(y.1.weights P (g x)).all (· ≤ reachBytes)=true
  | [],r,h,_,x,hx=>by cases hx
  | a::l,r,h,hw,x,hx=>by
    rw [List.mapM_cons] at h
    cases ha:f a with
    | none=>rw [ha] at h;cases h
    | some y =>
      rw [ha] at h
      cases hl:l.mapM f with
      | none=>rw [hl] at h;cases h
      | some r' =>
        rw [hl] at h
        injection h with h;subst h
        rw [List.map_cons,List.map_cons] at hw
        unfold DataW.weightsEach at hw
        rw [List.all_append,Bool.and_eq_true] at hw
        rcases List.mem_cons.1 hx with rfl|hx
        · exact ⟨y,ha,hw.1⟩
        · exact weightsEach_mem hl hw.2 x hx
theorem RdW.str [hk:TStr P t]:RdW P t strT fun s=>s.length≤reachBytes:=⟨fun {H} enc W fuel cs d ps h hw=>by
  cases fuel with
  | zero=>cases h
  | succ fuel =>
    unfold DataW.trod at h
    rw [hk.h] at h
    rcases cs with _|⟨v,_|⟨v2,cs⟩⟩
    · exact absurd (show (none:Option (DataW H × List MemPlace))=some (d,ps) from h) (by simp)
    · cases v with
      | string s =>
        replace h:(if s.size≤maxLen then some (DataW.lit (.string s.data.toList),[]) else none)=some (d,ps):=h
        split at h
        · rename_i hc
          injection h with h
          injection h with h _
          subst h
          refine ⟨s.data.toList,?_,⟨rfl,rfl⟩,trivial⟩
          unfold DataW.weights at hw
          simpa using hw
        · cases h
      | _=>exact absurd (show (none:Option (DataW H × List MemPlace))=some (d,ps) from h) (by simp)
    · exact absurd (show (none:Option (DataW H × List MemPlace))=some (d,ps) from by cases v <;> exact h) (by simp)⟩
theorem RdW.slice {α:Type} {T:Td α} {V:α→Prop} {e by_:Nat} [hk:TSl P t e] [TSz P e T.sz] [hby:TBy P e by_] (he:RdW P e T V):RdW P t (slT T) fun xs=>xs.length≤maxLen∧xs.length*by_≤reachBytes ∧ ∀ x ∈ xs,V x:=⟨fun {H} enc W fuel cs d ps h hw=>by
  cases fuel with
  | zero=>cases h
  | succ fuel =>
    unfold DataW.trod at h
    rw [hk.h] at h
    split at h
    all_goals (first|(cases h;done)|(rename_i h1 h2;cases h1;done)|(rename_i h1;cases h1;done)|skip)
    · exact ⟨[],⟨by unfold maxLen;simp,by simp,by simp⟩,⟨⟨none,0,rfl,Nat.le_refl _,by unfold maxLen;simp,fun _=>rfl,fun h=>absurd h (Nat.lt_irrefl _)⟩,rfl⟩,trivial⟩
    · rename_i e' a len cap h1
      cases h1
      simp only [] at h
      split at h
      · rename_i hc
        obtain ⟨_,hlc,hcm⟩:=hc
        obtain ⟨elems,hel,hrest⟩:=Option.bind_eq_some_iff.1 h
        obtain ⟨rest,_,heq⟩:=Option.map_eq_some_iff.1 hrest
        injection heq with heq _
        subst heq
        obtain ⟨hlen,hall⟩:=mapM_memW hel
        rw [List.length_range] at hlen
        rw [cellsOf_of (t:=e) (n:=T.sz)] at hall
        unfold DataW.weights at hw
        rw [hk.h] at hw
        have hbo:P.bytesOf e=by_:=by
          obtain ⟨ti,hti,hb⟩:=Option.map_eq_some_iff.1 hby.h
          unfold Program.bytesOf
          simp [hti,hb]
        simp only [List.all_cons,List.all_append,Bool.and_eq_true,decide_eq_true_eq,hbo,List.length_map] at hw
        obtain ⟨hw1,hw2,_⟩:=hw
        have hwl:len*by_≤reachBytes:=Nat.le_trans (Nat.mul_le_mul_right _ (by omega)) hw1
        obtain ⟨xs,hxl,hxs⟩:=range_all (fun i x=>V x ∧ ∀ j φ,(T.cells x)[j]?=some φ → ∃ c,W.cell? ((a.add (i*T.sz)).add j)=some c∧φ.c (fullH W) c) len fun i hi=>by
          obtain ⟨y,hym,hy⟩:=hall i (List.mem_range.2 hi)
          obtain ⟨ci,hci,htr⟩:=Option.bind_eq_some_iff.1 hy
          obtain ⟨x,hV,hx⟩:=he.h enc W fuel ci y.1 y.2 htr (weightsAll_mem hw2 _ (List.mem_map.2 ⟨y,hym,rfl⟩))
          refine ⟨x,hV,fun j φ hj=>?_⟩
          obtain ⟨c,hc,hφ⟩:=hx.get j φ hj
          refine ⟨c,?_,hφ⟩
          unfold World.cells? at hci
          rw [if_pos (Nat.zero_le _)] at hci
          have hjl:j < T.sz:=by rw [← T.len x];exact (List.getElem?_eq_some_iff.1 hj).1
          obtain ⟨v,hv⟩:=mapM_mem hci j (List.mem_range.2 hjl)
          have:ci[j]?=W.cell? ((a.add (i*T.sz)).add j):=by
            have hm : ∀ (l:List Nat) (r:List Value),l.mapM (fun i'=>W.cell? ((a.add (i*T.sz)).add i'))=some r → ∀ (j n:Nat),l[j]?=some n→r[j]?=W.cell? ((a.add (i*T.sz)).add n):=by
              intro l
              induction l with
              | nil=>intro r _ j n hn;simp at hn
              | cons m l ih =>
                intro r hr j n hn
                rw [List.mapM_cons] at hr
                cases hm:W.cell? ((a.add (i*T.sz)).add m) with
                | none=>rw [hm] at hr;cases hr
                | some u =>
                  rw [hm] at hr
                  cases hl:l.mapM (fun i'=>W.cell? ((a.add (i*T.sz)).add i')) with
                  | none=>rw [hl] at hr;cases hr
                  | some r' =>
                    rw [hl] at hr
                    cases hr
                    cases j with
                    | zero=>simp at hn;subst hn;simp [hm]
                    | succ j=>simpa using ih r' hl j n (by simpa using hn)
            exact hm _ _ hci j j (by simp [hjl])
          rw [← this];exact hc
        refine ⟨xs,⟨by omega,by rw [hxl];exact hwl,fun x hx=>?_⟩,⟨⟨some a,cap,by rw [hxl],by omega,hcm,fun h=>(by cases h),fun hpos=>?_⟩,rfl⟩,trivial⟩
        · obtain ⟨i,hi,rfl⟩:=List.mem_iff_getElem.1 hx
          exact (hxs i _ (List.getElem?_eq_getElem hi)).1
        · obtain ⟨b,o,spot⟩:=a
          have hp0:0 < T.sz:=T.pos
          have hspot:spot=none:=by
            obtain ⟨_,h0⟩:=hxs 0 xs[0] (List.getElem?_eq_getElem hpos)
            obtain ⟨c,hc,_⟩:=h0 0 _ (List.getElem?_eq_getElem (by rw [T.len];exact hp0))
            rw [Nat.zero_mul] at hc
            simp only [Addr.add,if_true] at hc
            cases spot with
            | none=>rfl
            | some k =>
              exfalso
              unfold World.cell? at hc
              split at hc
              · simp at hc
              · cases hc
          subst hspot
          refine ⟨b,o,rfl,fun i φ hi=>?_⟩
          obtain ⟨x,hx,hφ⟩:=flat_at T.toTy hp0 hi
          obtain ⟨c,hc,hφc⟩:=(hxs _ x hx).2 _ φ hφ
          refine ⟨c,?_,hφc⟩
          rw [add_at,add_at] at hc
          have e:o+i / T.sz*T.sz+i % T.sz=o+i:=by rw [Nat.add_assoc,Nat.mul_comm,Nat.div_add_mod]
          rw [e] at hc
          exact hc
      · cases h⟩
theorem trod_structW {H:Type} {enc:TypeId × Value→H} {W:World} {fuel n:Nat} {cs:List Value} {d:DataW H} {ps:List MemPlace} {fs:Array Field} (hu:P.underlying t=some (.struct fs)) [TSz P t n] (h:DataW.trod enc P W 0 (fun _=>true) true fuel t cs=some (d,ps)) (hw:(d.weights P t).all (· ≤ reachBytes)=true) :
    ∀ f ∈ fs.toList, ∃ fuel' y,DataW.trod enc P W 0 (fun _=>true) true fuel' f.type ((cs.drop f.offset).take (P.cellsOf f.type))=some y∧(y.1.weights P f.type).all (· ≤ reachBytes)=true:=by
  cases fuel with
  | zero=>cases h
  | succ fuel =>
    unfold DataW.trod at h
    rw [hu] at h
    replace h:(if cs.length=P.cellsOf t then (fs.toList.mapM fun f=>DataW.trod enc P W 0 (fun _=>true) true fuel f.type ((cs.drop f.offset).take (P.cellsOf f.type))).map fun xs=>(DataW.agg (xs.map (·.1)),xs.flatMap (·.2)) else none)=some (d,ps):=h
    split at h
    · rename_i hl
      obtain ⟨elems,hel,heq⟩:=Option.map_eq_some_iff.1 h
      injection heq with heq _
      subst heq
      unfold DataW.weights at hw
      rw [hu] at hw
      intro f hf
      obtain ⟨y,hy,hyw⟩:=weightsEach_mem (g:=fun f:Field=>f.type) hel hw f hf
      exact ⟨fuel,y,hy,hyw⟩
    · cases h
theorem RdW.fld {α:Type} {T:Td α} {V:α→Prop} {H:Type} {enc:TypeId × Value→H} {W:World} {fuel n i off ft:Nat} {cs:List Value} {d:DataW H} {ps:List MemPlace} (he:RdW P ft T V) [hf:TFld P t i off ft] [TSz P t n] [TSz P ft T.sz]
    (h:DataW.trod enc P W 0 (fun _=>true) true fuel t cs=some (d,ps)) (hw:(d.weights P t).all (· ≤ reachBytes)=true) : ∃ x,V x∧All2 (fun φ c=>φ.c (fullH W) c) (T.cells x) ((cs.drop off).take T.sz):=by
  obtain ⟨fs,f,hu,hfi,hoff,hft⟩:=hf.h
  obtain ⟨fuel',y,hy,hyw⟩:=trod_structW (n:=n) hu h hw f (by
    rw [Array.mem_toList_iff]
    exact Array.mem_of_getElem? hfi)
  rw [hoff,hft,cellsOf_of (t:=ft) (n:=T.sz)] at hy
  rw [hft] at hyw
  exact he.h enc W fuel' _ y.1 y.2 hy hyw
def SeenW (s:SeenV):Prop:=s.name.length≤reachBytes∧I64 s.retain∧(s.holds.length≤maxLen∧s.holds.length*16≤reachBytes ∧ ∀ x ∈ s.holds,x.length≤maxLen)∧s.recs.length≤maxLen ∧ ∀ r ∈ s.recs,RecVOk r
def ViewW (v:ViewV):Prop:=I64 v.clock∧v.streams.length≤maxLen ∧ ∀ s ∈ v.streams,SeenW s
theorem RdW.Seen {ti tn tl tx tr:Nat} (hr:Rd P tr recVT RecVOk) [TFld P t 0 0 tn] [TFld P t 1 1 ti] [TFld P t 2 2 tl] [TFld P t 3 3 tx] [TSz P t 4] [TSz P tn 1] [TBy P tn 16] [TStr P tn] [TSz P ti 1] [TInt P ti .i64] [TSz P tl 1] [TSl P tl tn] [TSz P tx 1] [TSl P tx tr] [TSz P tr 3]:RdW P t seenT SeenW:=⟨fun {H} enc W fuel cs d ps h hw=>by
  have hl:=Rd.lenOf (n:=4) (i:=0) (off:=0) (ft:=tn) h
  haveI:TSz P tn strT.sz:=(inferInstance:TSz P tn 1)
  haveI:TSz P ti (intT .i64).sz:=(inferInstance:TSz P ti 1)
  haveI:TSz P tl (slT strT).sz:=(inferInstance:TSz P tl 1)
  haveI:TSz P tr recVT.sz:=(inferInstance:TSz P tr 3)
  haveI:TSz P tx (slT recVT).sz:=(inferInstance:TSz P tx 1)
  obtain ⟨a,ha,h0⟩:=RdW.fld (n:=4) (i:=0) (off:=0) (ft:=tn) (T:=strT) RdW.str h hw
  obtain ⟨b,hb,h1⟩:=RdW.fld (n:=4) (i:=1) (off:=1) (ft:=ti) (T:=intT .i64) (Rd.w Rd.i64) h hw
  obtain ⟨c,hc,h2⟩:=RdW.fld (n:=4) (i:=2) (off:=2) (ft:=tl) (T:=slT strT) (RdW.slice (by_:=16) (Rd.w Rd.str)) h hw
  obtain ⟨r,hr,h3⟩:=RdW.fld (n:=4) (i:=3) (off:=3) (ft:=tx) (T:=slT recVT) (Rd.w (Rd.slice hr)) h hw
  refine ⟨⟨a,b,c,r⟩,⟨ha,hb,hc,hr⟩,?_⟩
  exact fld_step (off:=0) (sz:=1) (a:=[is (L.str a)]) h0 (fld_step (off:=1) (sz:=1) (a:=[is (.int .i64 b)]) h1 (fld_step (off:=2) (sz:=1) (a:=[sl strT.toTy c]) h2 (fld_step (off:=3) (sz:=1) (a:=[sl recVT.toTy r]) h3 (fld_end hl))))⟩
theorem RdW.View {ti ts tst by_:Nat} (hst:RdW P tst seenT SeenW) [TFld P t 0 0 ti] [TFld P t 1 1 ts] [TSz P t 2] [TSz P ti 1] [TInt P ti .i64] [TSz P ts 1] [TSl P ts tst] [TSz P tst 4] [TBy P tst by_]:RdW P t viewT ViewW:=⟨fun {H} enc W fuel cs d ps h hw=>by
  have hl:=Rd.lenOf (n:=2) (i:=0) (off:=0) (ft:=ti) h
  haveI:TSz P ti (intT .i64).sz:=(inferInstance:TSz P ti 1)
  haveI:TSz P ts (slT seenT).sz:=(inferInstance:TSz P ts 1)
  haveI:TSz P tst seenT.sz:=(inferInstance:TSz P tst 4)
  obtain ⟨a,ha,h0⟩:=RdW.fld (n:=2) (i:=0) (off:=0) (ft:=ti) (T:=intT .i64) (Rd.w Rd.i64) h hw
  obtain ⟨b,hb,h1⟩:=RdW.fld (n:=2) (i:=1) (off:=1) (ft:=ts) (T:=slT seenT) (RdW.slice (by_:=by_) hst) h hw
  exact ⟨⟨a,b⟩,⟨ha,hb.1,hb.2.2⟩,fld_step (off:=0) (sz:=1) (a:=[is (.int .i64 a)]) h0 (fld_step (off:=1) (sz:=1) (a:=[sl seenT.toTy b]) h1 (fld_end hl))⟩⟩
theorem weights_cons {H:Type} {e:Nat} {ts:List Nat} {d:DataW H} {r:List (DataW H)} (h:(DataW.weightsEach P (e::ts) (d::r)).all (· ≤ reachBytes)=true):(d.weights P e).all (· ≤ reachBytes)=true∧(DataW.weightsEach P ts r).all (· ≤ reachBytes)=true:=by
  unfold DataW.weightsEach at h
  rw [List.all_append,Bool.and_eq_true] at h
  exact h
/-- Whole values. -/
theorem RdW.agg {α:Type} {T:Td α} {V:α→Prop} (h:RdW P t T V) (hag:T.ag=true) [ht:TAg P t true] {H:Type} {enc:TypeId × Value→H} {W:World} {r:Go.Reach} {b:Nat} {v:Value} {d:DataW H} {ps:List MemPlace} (hok:Value.okWide P W r b t v)
    (htr:DataW.Trod enc P W 0 (fun _=>true) true t v d ps) (hw:(d.weights P t).all (· ≤ reachBytes)=true) : ∃ x,V x∧(T.val x).h (fullH W) v:=by
  obtain ⟨fuel,htr⟩:=htr
  obtain ⟨x,hV,hx⟩:=h.h enc W fuel _ d ps htr hw
  refine ⟨x,hV,?_⟩
  obtain ⟨dd,hd,hb⟩:=ht.h
  unfold Value.okWide at hok
  rw [hd] at hok
  have : ∃ cs,v = .agg cs:=by
    cases dd <;> first|(obtain ⟨cs,hv,_⟩:=hok;exact ⟨cs,hv⟩)|(cases hb;done)
  obtain ⟨cs,rfl⟩:=this
  unfold Td.val
  rw [hag]
  exact ⟨cs.toList,by simp,hx⟩
end
end Go.Proofs.YtljbbajelkkafaaDoor.L
