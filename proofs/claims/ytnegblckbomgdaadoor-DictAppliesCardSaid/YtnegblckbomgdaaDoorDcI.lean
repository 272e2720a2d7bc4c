/- How two lists differ, and what the changes make: plain laws. -/
import Derived.Test.YtnegblckbomgdaaDoorDcE
import Derived.Test.YtnegblckbomgdaaDoorDcQ1
import Derived.Test.YtnegblckbomgdaaDoorDcQ2
set_option linter.unusedVariables false
set_option linter.unusedSimpArgs false
namespace Go.Proofs.YtnegblckbomgdaaDoor.Ht
open Go Go.RowKit Go.Shelf Go.Proofs.YtnegblckbomgdaaDoor.Mem Go.Proofs.YtnegblckbomgdaaDoor.PA Go.Proofs.YtnegblckbomgdaaDoorW.PrintWords Go.Proofs.YtnegblckbomgdaaDoor.U64 Go.Proofs.YtnegblckbomgdaaDoor.Bs Go.Proofs.YtnegblckbomgdaaDoor

abbrev Ch := S92
abbrev CHT : TypeId := 92
/-- how two lists differ, where things that are 'sm' count as the same -/
def diffL (sm : Int → Int → Bool) : List Pr → List Pr → List Ch
  | [], [] => []
  | [], f :: M => ⟨f.1, false, true, 0, f.2⟩ :: diffL sm [] M
  | e :: L, [] => ⟨e.1, true, false, e.2, 0⟩ :: diffL sm L []
  | e :: L, f :: M => if klt e.1 f.1 = true then ⟨e.1, true, false, e.2, 0⟩ :: diffL sm L (f :: M) else if klt f.1 e.1 = true then ⟨f.1, false, true, 0, f.2⟩ :: diffL sm (e :: L) M else if sm e.2 f.2 = true then diffL sm L M else ⟨f.1, true, true, e.2, f.2⟩ :: diffL sm L M
termination_by L M => L.length + M.length
decreasing_by all_goals simp_wf <;> omega

def dOf (sm : Int → Int → Bool) (k : ByteArray) : Option Int → Option Int → Option Ch
  | none, none => none
  | some x, none => some ⟨k, true, false, x, 0⟩
  | none, some y => some ⟨k, false, true, 0, y⟩
  | some x, some y => if sm x y = true then none else some ⟨k, true, true, x, y⟩
theorem lkp_over {M : List Pr} {k : ByteArray} (h : ∀ g ∈ M, klt k g.1 = true) : lkp M k = none := find_none fun e he h' => by have := h e he; rw [h', klt_self] at this; cases this
theorem over_cons {f : Pr} {M : List Pr} {k : ByteArray} (hS : Srt (f :: M)) (h : klt k f.1 = true) : ∀ g ∈ f :: M, klt k g.1 = true := by
  intro g hg
  rcases List.mem_cons.1 hg with rfl | hg
  · exact h
  · exact klt_trans h ((srt_cons.1 hS).1 g hg)
abbrev cfind (D : List Ch) (k : ByteArray) : Option Ch := D.find? fun d => decide (d.f0 = k)
theorem cfind_cons (d : Ch) (D : List Ch) (k : ByteArray) : cfind (d :: D) k = if d.f0 = k then some d else cfind D k := by
  unfold cfind
  rw [List.find?_cons]
  by_cases h : d.f0 = k <;> simp [h]
abbrev CSrt (D : List Ch) : Prop := D.Pairwise fun a b => klt a.f0 b.f0 = true
theorem diff_all (sm : Int → Int → Bool) : ∀ (n : Nat) (L M : List Pr), L.length + M.length ≤ n → Srt L → Srt M →
    (∀ d ∈ diffL sm L M, (∃ e ∈ L, e.1 = d.f0) ∨ (∃ e ∈ M, e.1 = d.f0)) ∧ CSrt (diffL sm L M) ∧ (diffL sm L M).length ≤ L.length + M.length ∧ ∀ k, cfind (diffL sm L M) k = dOf sm k (lkp L k) (lkp M k) := by
  intro n
  induction n with
  | zero =>
    intro L M hn hL hM
    obtain rfl := List.eq_nil_of_length_eq_zero (show L.length = 0 by omega)
    obtain rfl := List.eq_nil_of_length_eq_zero (show M.length = 0 by omega)
    rw [diffL]
    exact ⟨fun d hd => (by cases hd), List.Pairwise.nil, by simp, fun k => rfl⟩
  | succ n ih =>
    intro L M hn hL hM
    match L, M, hn, hL, hM with
    | [], [], _, _, _ =>
      rw [diffL]
      exact ⟨fun d hd => (by cases hd), List.Pairwise.nil, by simp, fun k => rfl⟩
    | [], f :: M, hn, hL, hM =>
      obtain ⟨h1, h2, h3, h4⟩ := ih [] M (by simp at hn ⊢; omega) hL (srt_cons.1 hM).2
      rw [diffL]
      refine ⟨fun d hd => ?_, List.pairwise_cons.2 ⟨fun d hd => ?_, h2⟩, by simp at h3 ⊢; omega, fun k => ?_⟩
      · rcases List.mem_cons.1 hd with rfl | hd
        · exact Or.inr ⟨f, List.mem_cons_self .., rfl⟩
        · rcases h1 d hd with ⟨e, he, _⟩ | ⟨e, he, h⟩
          · cases he
          · exact Or.inr ⟨e, List.mem_cons_of_mem _ he, h⟩
      · rcases h1 d hd with ⟨e, he, _⟩ | ⟨e, he, h⟩
        · cases he
        · rw [← h]; exact (srt_cons.1 hM).1 e he
      · rw [cfind_cons, lkp_cons, h4]
        by_cases hk : f.1 = k
        · subst hk; simp [dOf, lkp]
        · simp [hk]
    | e :: L, [], hn, hL, hM =>
      obtain ⟨h1, h2, h3, h4⟩ := ih L [] (by simp at hn ⊢; omega) (srt_cons.1 hL).2 hM
      rw [diffL]
      refine ⟨fun d hd => ?_, List.pairwise_cons.2 ⟨fun d hd => ?_, h2⟩, by simp at h3 ⊢; omega, fun k => ?_⟩
      · rcases List.mem_cons.1 hd with rfl | hd
        · exact Or.inl ⟨e, List.mem_cons_self .., rfl⟩
        · rcases h1 d hd with ⟨g, hg, h⟩ | ⟨g, hg, _⟩
          · exact Or.inl ⟨g, List.mem_cons_of_mem _ hg, h⟩
          · cases hg
      · rcases h1 d hd with ⟨g, hg, h⟩ | ⟨g, hg, _⟩
        · rw [← h]; exact (srt_cons.1 hL).1 g hg
        · cases hg
      · rw [cfind_cons, lkp_cons, h4]
        by_cases hk : e.1 = k
        · subst hk; simp [dOf, lkp]
        · simp [hk]
    | e :: L, f :: M, hn, hL, hM =>
      rw [diffL]
      by_cases hef : klt e.1 f.1 = true
      · obtain ⟨h1, h2, h3, h4⟩ := ih L (f :: M) (by simp at hn ⊢; omega) (srt_cons.1 hL).2 hM
        rw [if_pos hef]
        refine ⟨fun d hd => ?_, List.pairwise_cons.2 ⟨fun d hd => ?_, h2⟩, by simp at h3 ⊢; omega, fun k => ?_⟩
        · rcases List.mem_cons.1 hd with rfl | hd
          · exact Or.inl ⟨e, List.mem_cons_self .., rfl⟩
          · rcases h1 d hd with ⟨g, hg, h⟩ | ⟨g, hg, h⟩
            · exact Or.inl ⟨g, List.mem_cons_of_mem _ hg, h⟩
            · exact Or.inr ⟨g, hg, h⟩
        · rcases h1 d hd with ⟨g, hg, h⟩ | ⟨g, hg, h⟩
          · rw [← h]; exact (srt_cons.1 hL).1 g hg
          · rw [← h]; exact over_cons hM hef g hg
        · rw [cfind_cons, lkp_cons e, h4]
          by_cases hk : e.1 = k
          · subst hk
            rw [if_pos rfl, if_pos rfl, lkp_over (over_cons hM hef)]; rfl
          · rw [if_neg hk, if_neg hk]
      · rw [if_neg hef]
        by_cases hfe : klt f.1 e.1 = true
        · obtain ⟨h1, h2, h3, h4⟩ := ih (e :: L) M (by simp at hn ⊢; omega) hL (srt_cons.1 hM).2
          rw [if_pos hfe]
          refine ⟨fun d hd => ?_, List.pairwise_cons.2 ⟨fun d hd => ?_, h2⟩, by simp at h3 ⊢; omega, fun k => ?_⟩
          · rcases List.mem_cons.1 hd with rfl | hd
            · exact Or.inr ⟨f, List.mem_cons_self .., rfl⟩
            · rcases h1 d hd with ⟨g, hg, h⟩ | ⟨g, hg, h⟩
              · exact Or.inl ⟨g, hg, h⟩
              · exact Or.inr ⟨g, List.mem_cons_of_mem _ hg, h⟩
          · rcases h1 d hd with ⟨g, hg, h⟩ | ⟨g, hg, h⟩
            · rw [← h]; exact over_cons hL hfe g hg
            · rw [← h]; exact (srt_cons.1 hM).1 g hg
          · rw [cfind_cons, lkp_cons f, h4]
            by_cases hk : f.1 = k
            · subst hk
              rw [if_pos rfl, if_pos rfl, lkp_over (over_cons hL hfe)]; rfl
            · rw [if_neg hk, if_neg hk]
        · rw [if_neg hfe]
          have hef' : e.1 = f.1 := klt_tri (by simpa using hef) (by simpa using hfe)
          obtain ⟨h1, h2, h3, h4⟩ := ih L M (by simp at hn ⊢; omega) (srt_cons.1 hL).2 (srt_cons.1 hM).2
          have hLn : lkp L e.1 = none := lkp_over (srt_cons.1 hL).1
          have hMn : lkp M e.1 = none := by rw [hef']; exact lkp_over (srt_cons.1 hM).1
          by_cases hsm : sm e.2 f.2 = true
          · rw [if_pos hsm]
            refine ⟨fun d hd => ?_, h2, by simp at h3 ⊢; omega, fun k => ?_⟩
            · rcases h1 d hd with ⟨g, hg, h⟩ | ⟨g, hg, h⟩
              · exact Or.inl ⟨g, List.mem_cons_of_mem _ hg, h⟩
              · exact Or.inr ⟨g, List.mem_cons_of_mem _ hg, h⟩
            · rw [h4, lkp_cons e, lkp_cons f, ← hef']
              by_cases hk : e.1 = k
              · subst hk
                rw [if_pos rfl, if_pos rfl, hLn, hMn]; simp [dOf, hsm]
              · rw [if_neg hk, if_neg hk]
          · rw [if_neg hsm]
            refine ⟨fun d hd => ?_, List.pairwise_cons.2 ⟨fun d hd => ?_, h2⟩, by simp at h3 ⊢; omega, fun k => ?_⟩
            · rcases List.mem_cons.1 hd with rfl | hd
              · exact Or.inr ⟨f, List.mem_cons_self .., rfl⟩
              · rcases h1 d hd with ⟨g, hg, h⟩ | ⟨g, hg, h⟩
                · exact Or.inl ⟨g, List.mem_cons_of_mem _ hg, h⟩
                · exact Or.inr ⟨g, List.mem_cons_of_mem _ hg, h⟩
            · rcases h1 d hd with ⟨g, hg, h⟩ | ⟨g, hg, h⟩
              · rw [← h, ← hef']; exact (srt_cons.1 hL).1 g hg
              · rw [← h]; exact (srt_cons.1 hM).1 g hg
            · rw [cfind_cons, h4, lkp_cons e, lkp_cons f, ← hef']
              by_cases hk : e.1 = k
              · subst hk
                rw [if_pos rfl, if_pos rfl, if_pos rfl]; simp [dOf, hsm]
              · rw [if_neg hk, if_neg hk, if_neg hk]

/-- one change done -/
def app1 (L : List Pr) (d : Ch) : List Pr := if d.f2 = true then ins L d.f0 d.f4 else del L d.f0
def appL (L : List Pr) (D : List Ch) : List Pr := D.foldl app1 L
theorem app1_srt {L : List Pr} (h : Srt L) (d : Ch) : Srt (app1 L d) := by unfold app1; split; exact h.ins _ _; exact h.del _
theorem app1_len {L : List Pr} (h : Srt L) (d : Ch) : (app1 L d).length ≤ L.length + 1 := by
  unfold app1; split
  · exact ins_len L _ _ h
  · exact Nat.le_succ_of_le (List.length_filter_le _ _)
theorem appL_srt {L : List Pr} (h : Srt L) (D : List Ch) : Srt (appL L D) := by
  induction D generalizing L with
  | nil => exact h
  | cons d D ih => exact ih (app1_srt h d)
theorem appL_lkp (D : List Ch) (hD : CSrt D) (k : ByteArray) : ∀ L : List Pr, lkp (appL L D) k = match cfind D k with | none => lkp L k | some d => if d.f2 = true then some d.f4 else none := by
  induction D with
  | nil => intro L; rfl
  | cons d D ih =>
    intro L
    have hd := List.pairwise_cons.1 hD
    show lkp (appL (app1 L d) D) k = _
    rw [ih hd.2, cfind_cons]
    by_cases hk : d.f0 = k
    · have hn : cfind D k = none := List.find?_eq_none.2 fun c hc => by
        have := hd.1 c hc
        rw [hk] at this
        simpa using fun h' => by rw [h', klt_self] at this; cases this
      rw [hn, if_pos hk]
      show lkp (app1 L d) k = if d.f2 = true then some d.f4 else none
      unfold app1
      by_cases hf : d.f2 = true
      · rw [if_pos hf, if_pos hf, lkp_ins, if_pos hk.symm]
      · rw [if_neg hf, if_neg hf, lkp_del, if_pos hk.symm]
    · rw [if_neg hk]
      cases cfind D k with
      | some c => rfl
      | none =>
        show lkp (app1 L d) k = lkp L k
        unfold app1
        by_cases hf : d.f2 = true
        · rw [if_pos hf, lkp_ins, if_neg (fun h => hk h.symm)]
        · rw [if_neg hf, lkp_del, if_neg (fun h => hk h.symm)]
def trn (d : Ch) : Ch := ⟨d.f0, d.f2, d.f1, d.f4, d.f3⟩
abbrev eqI : Int → Int → Bool := fun x y => x == y
theorem appL_diff {L M : List Pr} (hL : Srt L) (hM : Srt M) : appL L (diffL eqI L M) = M := by
  obtain ⟨-, h2, -, h4⟩ := diff_all eqI _ L M (Nat.le_refl _) hL hM
  refine srt_ext (appL_srt hL _) hM fun k => ?_
  rw [appL_lkp _ h2, h4]
  cases hl : lkp L k with
  | none => cases hm : lkp M k <;> simp [dOf]
  | some x =>
    cases hm : lkp M k with
    | none => simp [dOf]
    | some y =>
      by_cases hxy : x = y
      · subst hxy; simp [dOf]
      · simp [dOf, hxy]
theorem cfind_trn (D : List Ch) (k : ByteArray) : cfind (D.map trn) k = (cfind D k).map trn := by
  induction D with
  | nil => rfl
  | cons d D ih =>
    rw [List.map_cons, cfind_cons, cfind_cons, ih]
    by_cases h : d.f0 = k
    · rw [if_pos (show (trn d).f0 = k from h), if_pos h]; rfl
    · rw [if_neg (show ¬ (trn d).f0 = k from h), if_neg h]
theorem csrt_trn {D : List Ch} (h : CSrt D) : CSrt (D.map trn) := List.pairwise_map.2 h
theorem appL_turn {L M : List Pr} (hL : Srt L) (hM : Srt M) : appL M ((diffL eqI L M).map trn) = L := by
  obtain ⟨-, h2, -, h4⟩ := diff_all eqI _ L M (Nat.le_refl _) hL hM
  refine srt_ext (appL_srt hM _) hL fun k => ?_
  rw [appL_lkp _ (csrt_trn h2), cfind_trn, h4]
  cases hl : lkp L k with
  | none => cases hm : lkp M k <;> simp [dOf, trn]
  | some x =>
    cases hm : lkp M k with
    | none => simp [dOf, trn]
    | some y =>
      by_cases hxy : x = y
      · subst hxy; simp [dOf]
      · simp [dOf, hxy, trn]
theorem diff_self (L : List Pr) : diffL eqI L L = [] := by
  induction L with
  | nil => rw [diffL]
  | cons e L ih => rw [diffL, klt_self]; simp [ih]

/-- a value that is a list of changes -/
def ChV (w : World) (v : Value) (D : List Ch) : Prop := ∃ A c, v = .slice A D.length c ∧ D.length ≤ c ∧ Kd.C k92 w A D.length D
theorem ChV.below {w w' : World} {v : Value} {D : List Ch} (h : ChV w v D) (hb : Below w.heap.size w w') : ChV w' v D := by
  obtain ⟨A, c, h1, h2, h3⟩ := h
  exact ⟨A, c, h1, h2, Kd.C_below h3 hb⟩
theorem ChV.at {w : World} {A : Option Addr} {n c : Nat} {D : List Ch} (h : ChV w (.slice A n c) D) (j : Nat) (o : Ch) (ho : D[j]? = some o) :
    ∃ ad, A = some ad ∧ w.cell? (ad.add (j * 5)) = some (.string o.f0) ∧ w.cell? ⟨(ad.add (j * 5)).block, (ad.add (j * 5)).off + 1, none⟩ = some (.bool o.f1) ∧ w.cell? ⟨(ad.add (j * 5)).block, (ad.add (j * 5)).off + 2, none⟩ = some (.bool o.f2) ∧
      w.cell? ⟨(ad.add (j * 5)).block, (ad.add (j * 5)).off + 3, none⟩ = some (.int .i64 o.f3) ∧ w.cell? ⟨(ad.add (j * 5)).block, (ad.add (j * 5)).off + 4, none⟩ = some (.int .i64 o.f4) := by
  obtain ⟨A', c', he, h2, h3⟩ := h
  injection he with e1 e2 e3
  subst e1
  have hj := (List.getElem?_eq_some_iff.1 ho).1
  have := at_T92 h3 (j : Int) (by omega) (by omega)
  have e : rd_T92 D (j : Int) = o := by simp [rd_T92, List.getD_eq_getElem?_getD, ho]
  rw [e] at this
  simpa using this
theorem ChV.form {w : World} {v : Value} {D : List Ch} (h : ChV w v D) : ∃ A c, v = .slice A D.length c := by
  obtain ⟨A, c, h1, -⟩ := h
  exact ⟨A, c, h1⟩
theorem turn_loop (D : List Ch) (hl : D.length ≤ 1000000) : ∀ (d i : Nat), i + d = D.length → Ev (fun f => dict_Turned_int.l0 f ((D.take i).map trn) D (D.length : Int) (i : Int)) (D.map trn)
  | 0, i, hi => by
    refine Ev.ge 1 fun f => ?_
    simp only [dict_Turned_int.l0]
    rw [if_neg (by omega), List.take_of_length_le (by omega)]
  | d + 1, i, hi => by
    have he : D[i]? = some D[i] := List.getElem?_eq_getElem (by omega)
    have e : rd_T92 D (i : Int) = D[i] := by simp [rd_T92, List.getD_eq_getElem?_getD, he]
    have ht : (D.take (i + 1)).map trn = (D.take i).map trn ++ [trn D[i]] := by rw [List.take_add_one, he, List.map_append]; rfl
    obtain ⟨K, hK⟩ := turn_loop D hl d (i + 1) (by omega)
    refine Ev.shift 1 ⟨K, fun f hf => ?_⟩
    simp only [dict_Turned_int.l0]
    rw [if_pos (by omega), if_pos (by omega), if_pos (by omega), if_pos (by simp; omega), e, w64_succ (by omega)]
    have := hK f hf
    rw [ht] at this
    exact this
theorem turned_c (v : Value) (D : List Ch) (hl : D.length ≤ 1000000) (w : World) (h : ChV w v D) : Calls Tryd.prog 55 #[v] w (Ret (fun u w' => ChV w' u (D.map trn)) w) := by
  obtain ⟨A, c, rfl, h2, h3⟩ := h
  obtain ⟨f, hf⟩ := turn_loop D hl D.length 0 (by omega)
  refine (dict_Turned_int.calls f A c D _ w h3 h2 (hf f (Nat.le_refl _))).mono fun e w' h => ?_
  obtain ⟨v0, rfl, hR, hb⟩ := h
  exact ⟨_, rfl, Kd.R_reads hR, hb⟩
theorem equal_c (x y : Int) (w : World) : Calls Tryd.prog 69 #[.int .i64 x, .int .i64 y] w (Ret (fun u _ => u = .bool (eqI x y)) w) :=
  (placketlaw10_equal.calls x y _ w rfl).mono fun e w' h => ⟨_, h.1, rfl, h.2.below⟩
end Go.Proofs.YtnegblckbomgdaaDoor.Ht
