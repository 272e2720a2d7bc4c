/- Lists of pairs as arguments, and two boxes of which one says where their things lie. -/
import Derived.Test.YtnegblckbomgdaaDoorDcB
set_option linter.unusedVariables false
set_option linter.unusedSimpArgs false
namespace Go.Proofs.YtnegblckbomgdaaDoor.Ht
open Go Go.RowKit Go.Shelf Go.Proofs.YtnegblckbomgdaaDoor.Mem Go.Proofs.YtnegblckbomgdaaDoor.PA Go.Proofs.YtnegblckbomgdaaDoorW.PrintWords Go.Proofs.YtnegblckbomgdaaDoor.U64 Go.Proofs.YtnegblckbomgdaaDoor

abbrev S2 := S133
abbrev PPT : TypeId := 133
/-- a value that is a list of pairs -/
def PairsV (w : World) (v : Value) (os : List S2) : Prop := ∃ A c, v = .slice A os.length c ∧ os.length ≤ c ∧ Kd.C k133 w A os.length os
theorem PairsV.below {w w' : World} {v : Value} {os : List S2} (h : PairsV w v os) (hb : Below w.heap.size w w') : PairsV w' v os := by
  obtain ⟨A, c, h1, h2, h3⟩ := h
  exact ⟨A, c, h1, h2, Kd.C_below h3 hb⟩
theorem PairsV.max {w : World} {v : Value} {os : List S2} (h : PairsV w v os) : os.length ≤ 9223372036854775807 := by
  obtain ⟨A, c, h1, h2, h3⟩ := h
  exact h3.2.1
theorem PairsV.at {w : World} {A : Option Addr} {n c : Nat} {os : List S2} (h : PairsV w (.slice A n c) os) (j : Nat) (o : S2) (ho : os[j]? = some o) :
    ∃ ad, A = some ad ∧ w.cell? (ad.add (j * 2)) = some (.string o.f0) ∧ w.cell? ⟨(ad.add (j * 2)).block, (ad.add (j * 2)).off + 1, none⟩ = some (.int .i64 o.f1) := by
  obtain ⟨A', c', he, h2, h3⟩ := h
  injection he with e1 e2 e3
  subst e1
  have hj := (List.getElem?_eq_some_iff.1 ho).1
  have := at_T133 h3 (j : Int) (by omega) (by omega)
  have e : rd_T133 os (j : Int) = o := by simp [rd_T133, List.getD_eq_getElem?_getD, ho]
  rw [e] at this
  simpa using this

theorem fewp_loop (os : List S2) (hm : os.length ≤ 9223372036854775807) : ∀ (d i : Nat), i + d = os.length → ∃ b : Bool, Ev (fun f => placketlaw10_few.l0 f os os (os.length : Int) (i : Int)) b ∧ (b = true → os.length ≤ 80 ∧ ∀ o ∈ os.drop i, o.f0.size ≤ 200)
  | 0, i, hi => by
    refine ⟨decide ((os.length : Int) ≤ 80), Bs.Ev.ge 1 fun f => ?_, fun h => ?_⟩
    · simp only [placketlaw10_few.l0]
      rw [if_neg (by omega)]
    · have h1 := of_decide_eq_true h
      refine ⟨by omega, fun o ho => ?_⟩
      rw [List.drop_eq_nil_of_le (by omega)] at ho
      cases ho
  | d + 1, i, hi => by
    have hlt : i < os.length := by omega
    have ho : os[i]? = some os[i] := List.getElem?_eq_getElem hlt
    generalize os[i] = o at ho
    have e : rd_T133 os (i : Int) = o := by simp [rd_T133, List.getD_eq_getElem?_getD, ho]
    have hd : os.drop i = o :: os.drop (i + 1) := by
      rw [List.drop_eq_getElem_cons hlt]
      have := List.getElem?_eq_some_iff.1 ho
      obtain ⟨h1, h2⟩ := this
      rw [h2]
    by_cases hk : (o.f0.size : Int) > 200
    · refine ⟨false, Bs.Ev.ge 1 fun f => ?_, fun h => by cases h⟩
      simp only [placketlaw10_few.l0]
      rw [if_pos (by omega), if_pos (by omega), if_pos (by omega), e, if_pos hk]
    · obtain ⟨b, ⟨K, hb⟩, hh⟩ := fewp_loop os hm d (i + 1) (by omega)
      refine ⟨b, Bs.Ev.shift 1 ⟨K, fun f hf => ?_⟩, fun h => ⟨(hh h).1, fun q hq => ?_⟩⟩
      · simp only [placketlaw10_few.l0]
        rw [if_pos (by omega), if_pos (by omega), if_pos (by omega), e, if_neg hk, Bs.w64_succ (by omega)]
        exact hb f hf
      · rw [hd] at hq
        rcases List.mem_cons.1 hq with rfl | hq
        · omega
        · exact (hh h).2 q hq
/-- ARE THESE FEW PAIRS, OF SHORT KEYS? -/
theorem fewp_c (v : Value) (os : List S2) (w : World) (h : PairsV w v os) : ∃ b : Bool, (b = true → os.length ≤ 80 ∧ ∀ o ∈ os, o.f0.size ≤ 200) ∧ ∀ V, Below w.heap.size w V → Calls Tryd.prog 37 #[v] V (Ret (fun u _ => u = .bool b) V) := by
  have hm := h.max
  obtain ⟨A, c, rfl, h2, h3⟩ := h
  obtain ⟨b, ⟨K, hb⟩, hh⟩ := fewp_loop os hm os.length 0 (by omega)
  refine ⟨b, hh, fun V hV => ?_⟩
  exact (placketlaw10_few.calls K A c os b V (Kd.C_below h3 hV) h2 (hb K (Nat.le_refl _))).mono fun e w' h => ⟨_, h.1, rfl, h.2⟩

section
variable {c : Cf} {y b : Int} {K : Nat → Prop} {g : Nat} {n n' : Int} {p p' : Option Addr} {s t s' t' : Value} {L L' : List Pr} {V w w1 w2 : World}
/-- two boxes: a map, and the document's; their things lie in K -/
def TwK (K : Nat → Prop) (c : Cf) (y b : Int) (g : Nat) (n : Int) (p : Option Addr) (s t : Value) (L : List Pr) (wr : World) : Prop :=
  wr.heap[g]? = some (.cells #[.int .u64 y, .int .i64 b, .int .i64 n, .pointer p] MT (0, 0)) ∧ wr.heap[g + 1]? = some (.cells #[s, t] RT (0, 0)) ∧
    MapV c K wr (.agg #[.int .u64 y, .int .i64 b, .int .i64 n, .pointer p]) L ∧ RefV K wr (.agg #[s, t]) L
theorem TwK.below {w' : World} (h : TwK K c y b g n p s t L w) (hb : Below w.heap.size w w') : TwK K c y b g n p s t L w' :=
  ⟨blk_below h.1 hb, blk_below h.2.1 hb, h.2.2.1.below hb, h.2.2.2.below hb⟩
theorem TwK.srt (h : TwK K c y b g n p s t L V) : Srt L ∧ Sm L := by
  obtain ⟨p, -, -, h1, h2⟩ := h.2.2.1
  exact ⟨h1, h2⟩
theorem TwK.form (h : TwK K c y b g n p s t L V) : ∃ A1 n1 c1 A2 n2 c2, s = .slice A1 n1 c1 ∧ t = .slice A2 n2 c2 := by
  obtain ⟨s', t', e, h1, h2⟩ := h.2.2.2
  simp only [Value.agg.injEq, Array.mk.injEq, List.cons.injEq, and_true] at e
  obtain ⟨rfl, rfl⟩ := e
  obtain ⟨A1, n1, c1, rfl⟩ := h1.form
  obtain ⟨A2, n2, c2, rfl⟩ := h2.form
  exact ⟨A1, n1, c1, A2, n2, c2, rfl, rfl⟩
/-- both boxes are filled anew -/
theorem twk_put (h : TwK K c y b g n p s t L V) (hn0 : ¬ K g) (hn1 : ¬ K (g + 1)) (hN : ∀ x, V.heap.size ≤ x → K x) (hb1 : Below V.heap.size V w1) (hb2 : Below w1.heap.size w1 w2)
    (hm : MapV c (New K V) w1 (.agg #[.int .u64 y, .int .i64 b, .int .i64 n', .pointer p']) L') (hr : RefV (Fresh w1) w2 (.agg #[s', t']) L') :
    TwK K c y b g n' p' s' t' L' (((put4w w2 g (.int .u64 y) (.int .i64 b) (.int .i64 n') (.pointer p')).setCell ⟨g + 1, 0, none⟩ s').setCell ⟨g + 1, 1, none⟩ t') := by
  have hg1 : g + 1 < V.heap.size := blk_lt h.2.1
  have h12 := below_trans hb1 hb2
  have b0 := blk_below h.1 h12
  have b1 := blk_below h.2.1 h12
  have hm2 : MapV c K w2 (.agg #[.int .u64 y, .int .i64 b, .int .i64 n', .pointer p']) L' := (hm.below hb2).mono fun b hb => hb.elim id fun hb => hN b hb
  have hr2 : RefV K w2 (.agg #[s', t']) L' := hr.mono fun b hb => hN b (Nat.le_trans hb1.size hb)
  refine ⟨?_, ?_, ?_, ?_⟩
  · exact blk_far (blk_far (put4 b0) (p := ⟨g + 1, 0, none⟩) (show g ≠ g + 1 by omega) _) (p := ⟨g + 1, 1, none⟩) (show g ≠ g + 1 by omega) _
  · exact put2 (blk_far (blk_far (blk_far (blk_far b1 (p := ⟨g, 0, none⟩) (show g + 1 ≠ g by omega) _) (p := ⟨g, 1, none⟩) (show g + 1 ≠ g by omega) _) (p := ⟨g, 2, none⟩) (show g + 1 ≠ g by omega) _) (p := ⟨g, 3, none⟩) (show g + 1 ≠ g by omega) _)
  · exact mapv_far (mapv_far (mapv_far (mapv_far (mapv_far (mapv_far hm2 _ 0 _ hn0) _ 1 _ hn0) _ 2 _ hn0) _ 3 _ hn0) _ 0 _ hn1) _ 1 _ hn1
  · exact refv_far (refv_far (refv_far (refv_far (refv_far (refv_far hr2 _ 0 _ hn0) _ 1 _ hn0) _ 2 _ hn0) _ 3 _ hn0) _ 0 _ hn1) _ 1 _ hn1
/-- what setting a key makes of the map in its box -/
theorem sets_mv {n : Int} (hy : U c.1 = y) (hb : c.2 = b) (h : MapV c K V (.agg #[.int .u64 y, .int .i64 b, .int .i64 n, .pointer p]) L) (hl : L.length ≤ 1000) (k : ByteArray) (x : Int) (hk : k.size ≤ 1000000) :
    Calls Tryd.prog 25 #[.agg #[.int .u64 y, .int .i64 b, .int .i64 n, .pointer p], .string k, .int .i64 x] V (Ret (fun v' w' => ∃ n' p', v' = .agg #[.int .u64 y, .int .i64 b, .int .i64 n', .pointer p'] ∧ MapV c (New K V) w' (.agg #[.int .u64 y, .int .i64 b, .int .i64 n', .pointer p']) (ins L k x)) V) :=
  ret_of (mset_c c K _ L k x hk V h (by omega)) fun v' w' hB hv => by
    have h0 := hv
    obtain ⟨p', rfl, -⟩ := hv
    exact ⟨_, p', by rw [← hy, ← hb], by rw [← hy, ← hb]; exact h0⟩
theorem rsets_mv {V' : World} (hS : Srt L) (hSm : Sm L) (h : RefV K V (.agg #[s, t]) L) (hl : L.length ≤ 1000) (k : ByteArray) (x : Int) (hV : Below V.heap.size V V') :
    Calls Tryd.prog 71 #[.agg #[s, t], .string k, .int .i64 x] V' (Ret (fun v' w' => ∃ A1 n1 c1 A2 n2 c2, v' = .agg #[.slice A1 n1 c1, .slice A2 n2 c2] ∧ RefV (Fresh V') w' (.agg #[.slice A1 n1 c1, .slice A2 n2 c2]) (ins L k x)) V') :=
  ret_of (refset_c K _ L hS hSm (by omega) k x V' (h.below hV)) fun v' w' hB hv => by
    have h0 := hv
    obtain ⟨s', t', rfl, h1, h2⟩ := hv
    obtain ⟨A1, n1, c1, rfl⟩ := h1.form
    obtain ⟨A2, n2, c2, rfl⟩ := h2.form
    exact ⟨A1, n1, c1, A2, n2, c2, rfl, h0⟩
theorem ins_len (L : List Pr) (k : ByteArray) (x : Int) (h : Srt L) : (ins L k x).length ≤ L.length + 1 := by
  cases hk : lkp L k with
  | none => rw [ins_length_none h x hk]; exact Nat.le_refl _
  | some y => rw [ins_length_some h x hk]; exact Nat.le_succ _
end
/-- two results, each a struct in memory -/
theorem results_cc {P : Program} {fn : Func} {p q : Tmp} {ty ty' : TypeId} (h : fn.results = #[.cell p ty, .cell q ty']) (tmps : Array Value) (w : World) (g g' : Nat) (t t' : TypeId) (cs cs' : Array Value) (fr fr' : Nat × Nat) (d d' : TypeDesc)
    (hp : tmps.getD p undef = .pointer (some ⟨g, 0, none⟩)) (hp1 : tmps.getD q undef = .pointer (some ⟨g', 0, none⟩)) (hg : w.heap[g]? = some (.cells cs t fr)) (hg1 : w.heap[g']? = some (.cells cs' t' fr'))
    (hu : P.underlying ty = some d) (hd : (match d with | .struct _ | .array _ _ => true | _ => false) = true) (hi : (P.info? ty).map (·.size) = some cs.size)
    (hu1 : P.underlying ty' = some d') (hd1 : (match d' with | .struct _ | .array _ _ => true | _ => false) = true) (hi1 : (P.info? ty').map (·.size) = some cs'.size) :
    (results fn tmps).run P w = .ok (.tuple #[.agg cs, .agg cs']) w := by
  have hp' : tmps[p]?.getD undef = .pointer (some ⟨g, 0, none⟩) := by simpa using hp
  have hp1' : tmps[q]?.getD undef = .pointer (some ⟨g', 0, none⟩) := by simpa using hp1
  simp [results, h, hp', hp1', asAddr, run_loadVar_row w g t ty cs fr d hg hu hd hi, run_loadVar_row w g' t' ty' cs' fr' d' hg1 hu1 hd1 hi1]
end Go.Proofs.YtnegblckbomgdaaDoor.Ht
