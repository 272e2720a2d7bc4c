/- Laws of the maps' code and of the words it uses, gathered out of the printed and own texts; no conditions. -/
import Derived.Test.YtnegblckbomgdaaDoorHs4
import Derived.Test.YtnegblckbomgdaaDoorHsHtSort
import Derived.Shelf.SlSortCmp.NoneTotal
import Derived.Deep.DrawnRows
import Derived.Test.YtnegblckbomgdaaDoorHsPAx4
import Derived.OrdersHeld
import Derived.Deep.RegionHeld3
import Derived.Deep.CutBlock
import Derived.Deep.DeepCutAuto
set_option linter.unusedVariables false
set_option linter.unusedSimpArgs false
section
namespace Go.Proofs.YtnegblckbomgdaaDoor.Ht
open Go Go.RowKit Go.Shelf Go.Sort Go.Proofs.YtnegblckbomgdaaDoor.Mem Go.Proofs.YtnegblckbomgdaaDoor.PA Go.Proofs.YtnegblckbomgdaaDoorW.PrintWords Go.Proofs.YtnegblckbomgdaaDoor.U64
theorem ltOf_pr (x y : Pr) : ltOf (fun x y : Pr => ordB x.1 y.1) x y = klt x.1 y.1 := by
  unfold ltOf
  have := ordB_neg (a := x.1) (b := y.1)
  cases h : klt x.1 y.1 <;> simp_all
theorem klt_ntrans {a b c : ByteArray} (h1 : klt a b = false) (h2 : klt b c = false) : klt a c = false := by
  cases h : klt a c with
  | false => rfl
  | true =>
    cases h3 : klt b a with
    | true => rw [klt_trans h3 h] at h2; cases h2
    | false => rw [← klt_tri h1 h3, h] at h2; cases h2
theorem swo_pr : SWO (ltOf fun x y : Pr => ordB x.1 y.1) where
  irrefl x := by rw [ltOf_pr]; exact klt_self _
  trans x y z h1 h2 := by rw [ltOf_pr] at *; exact klt_trans h1 h2
  ntrans x y z h1 h2 := by rw [ltOf_pr] at *; exact klt_ntrans h1 h2
theorem flat_get (L : List Pr) (j : Nat) (u : Value) (h : (prs L)[j]? = some u) : (flatK pairc 2 L.toArray)[j]! = u := by
  have hj : j < L.length * 2 := by have := (List.getElem?_eq_some_iff.1 h).1; rwa [prs_length] at this
  rw [get_flatK pairc 2 L.toArray j (by simpa using hj)]
  have hd : j / 2 < L.length := by omega
  have he : L[j / 2]? = some L[j / 2] := List.getElem?_eq_getElem hd
  obtain ⟨h0, h1⟩ := prs_get L (j / 2) _ he
  rw [getElem!_pos L.toArray (j / 2) (by simpa using hd), List.getElem_toArray]
  generalize L[j / 2] = e at h0 h1
  rcases (by omega : j % 2 = 0 ∨ j % 2 = 1) with hm | hm
  · rw [show j / 2 * 2 = j by omega, h] at h0
    injection h0 with h0
    rw [hm, h0]; rfl
  · rw [show j / 2 * 2 + 1 = j by omega, h] at h1
    injection h1 with h1
    rw [hm, h1]; rfl
theorem sortW_heap (W : World) (g n : Nat) (d : Array Pr) (os : Array Obj) (b : Nat) (hb : b < W.heap.size) (hne : b ≠ g) : (sortWorldK pairc 2 W g 0 n d os).heap[b]? = W.heap[b]? := by
  unfold sortWorldK
  rw [heap_grow_old _ _ (by rw [size_putRowK]; exact hb)]
  show (W.heap.modify g _)[b]? = _
  rw [Array.getElem?_modify, if_neg (Ne.symm hne)]
theorem row_slice {base size n : Nat} {e : TypeId} {v : Value} {xs : List Value} {W : World} (h : W.ownsRow base e size v n xs) : ∃ A c, v = .slice A n c := by
  rcases h.2 with ⟨rfl, h0⟩ | ⟨g, cap, cur, rfl, _⟩
  · exact ⟨none, 0, by rw [h0]⟩
  · exact ⟨_, _, rfl⟩
theorem sort_c (base : Nat) (v : Value) (L L' : List Pr) (W : World) (hb : base ≤ W.heap.size) (hrow : W.ownsRow base PT 2 v L'.length (prs L')) (hp : L'.Perm L) (hS : Srt L) (hl : L.length ≤ 1000000) :
    Calls Tryd.prog 104 #[v, .func (.func 105) #[] #[]] W fun e W' => e = .returned (.tuple #[]) ∧ SlK 2 (fun b => base ≤ b) W' v L.length (prs L) ∧
      (∀ (b : Nat) cs (t : TypeId) fr, W.heap[b]? = some (.cells cs t fr) → t ≠ PT → W'.heap[b]? = some (.cells cs t fr)) ∧ Below base W W' := by
  have hlen := hp.length_eq
  rcases hrow.2 with ⟨rfl, h0⟩ | ⟨g, cap, cur, rfl, hbg, hg, hn, hc, hs, ht⟩
  · have hL : L = [] := List.eq_nil_of_length_eq_zero (by omega)
    subst hL
    have hN := AnyF.slices_SortFunc_none (P := Tryd.prog) (ρ := Tryd.sortPr_ren) Tryd.sortPr none 0 (.func (.func 105) #[] #[]) W
    change Calls Tryd.prog 104 _ _ _ at hN
    refine hN.mono ?_
    rintro e W' ⟨rfl, rfl⟩
    exact ⟨rfl, SlK.nil 2 _ _, fun _ _ _ _ h _ => h, Below.refl _ _⟩
  · have hgW : g < W.heap.size := blk_lt hg
    have eg : ∀ args w, (callFunc 105 args).run Tryd.prog w = .ok (.enter 105 args) w := enters_of Tryd.func105 (by kernel_rfl) rfl
    have hH : HoldsK pairc 2 W g 0 L'.toArray := by
      intro j hj
      rw [size_flatK] at hj
      have hj' : j < L'.length * 2 := by simpa using hj
      obtain ⟨u, hu⟩ : ∃ u, (prs L')[j]? = some u := ⟨_, List.getElem?_eq_getElem (by rw [prs_length]; exact hj')⟩
      rw [flat_get L' j u hu, Nat.zero_add]
      refine ⟨?_, blk_frozen hg j⟩
      rw [← ht, List.getElem?_take_of_lt hj'] at hu
      rw [blk_cell hg j]
      simpa using hu
    have hcon := AnyQ.slices_SortFunc Tryd.sortPr 2 Tryd.isAgg121 Tryd.sizeOf121 pairc (fun _ => rfl) (fun x v hv => by simp [pairc] at hv; rcases hv with rfl | rfl <;> rfl) (fun x y : Pr => ordB x.1 y.1) swo_pr 105 #[] g 0 cap L'.toArray W eg
      (fun _ _ _ _ x y => cmp2_c x.1 y.1 x.2 y.2 _) hH hgW (by simp; omega)
    change Calls Tryd.prog 104 _ _ _ at hcon
    rw [List.size_toArray] at hcon
    refine hcon.mono ?_
    rintro e W' ⟨rfl, d', n, os, hP, hSo, rfl⟩
    have hd : d'.toList = L := sorted_is hS hp d' hP fun i j hij hj => by have := hSo i j (Nat.zero_le _) hij hj; rwa [ltOf_pr] at this
    have hds : d' = L.toArray := by rw [← hd]
    have hH' := holdsK_sortWorldK_c pairc 2 W g 0 L'.toArray d' n os hH hgW (by rw [hds]; simp; omega)
    refine ⟨rfl, ⟨_, cap, by rw [hlen], by omega, hc, prs_length L, fun _ => ⟨g, rfl, hbg, fun j u hu => ?_⟩, prs_one L⟩, fun b cs t fr h1 h2 => ?_, ⟨rfl, rfl, rfl, size_sortWorldK_c pairc 2 W g 0 n d' os, fun b hbb => sortW_heap W g n d' os b (by omega) (by omega)⟩⟩
    · have hj : j < L.length * 2 := by have := (List.getElem?_eq_some_iff.1 hu).1; rwa [prs_length] at this
      have := (hH' j (by rw [size_flatK, hds]; simpa using hj)).1
      rw [Nat.zero_add, hds, flat_get L j u hu] at this
      rw [hds]; exact this
    · have hne : b ≠ g := fun e => by subst e; rw [h1] at hg; injection hg with hg; injection hg with _ h3 _; exact h2 h3
      exact (sortW_heap W g n d' os b (blk_lt h1) hne).trans h1
set_option maxRecDepth 100000 in
set_option maxHeartbeats 4000000 in
theorem pairs_c (c : Cf) (K : Nat → Prop) (v : Value) (L : List Pr) (w : World) (h : MapV c K w v L) (hl : L.length ≤ 1000) (hT : Tab w) :
    Calls Tryd.prog 76 #[v] w (Ret (fun v' w' => SlK 2 (Fresh w) w' v' L.length (prs L)) w) := by
  obtain ⟨p, rfl, hR, hS, hSm⟩ := h
  have h0 : 0 < w.heap.size := block_lt (hT 0 (by decide))
  obtain ⟨seed, bits⟩ := c
  show Calls Tryd.prog 76 #[.agg #[.int .u64 (U seed), .int .i64 bits, .int .i64 (L.length : Int), .pointer p]] w _
  have hB2 : Below w.heap.size w ((w.alloc (.cells #[.int .u64 (U seed), .int .i64 bits, .int .i64 (L.length : Int), .pointer p] MT)).alloc (.cells #[.slice none 0 0] PLT)) := ((Below.refl w.heap.size w).alloc (Nat.le_refl _) _).alloc (by simp) _
  have hbox := heap_k1 w (.cells #[.int .u64 (U seed), .int .i64 bits, .int .i64 (L.length : Int), .pointer p] MT) (.cells #[.slice none 0 0] PLT)
  have hsz : ((w.alloc (.cells #[.int .u64 (U seed), .int .i64 bits, .int .i64 (L.length : Int), .pointer p] MT)).alloc (.cells #[.slice none 0 0] PLT)).heap.size = w.heap.size + 2 := by simp
  obtain ⟨L', hperm, hE⟩ := each_map (seed, bits) w.heap.size (w.heap.size + 1) (Nat.le_succ _) h0 p L _ ((hR.bound.mono (fun b h => h.2)).below hB2) hl (hT.below hB2) (by omega) ⟨_, hbox, World.ownsRow_nil _ _ _ _, trivial⟩
  unfold Coll at hE
  have HE := Lib.hid hE; have HB2 := Lib.hid hB2
  have HSO := Lib.hid (fun v W hb hr => sort_c w.heap.size v L L' W hb hr hperm hS (by omega))
  clear hE hR hT hB2 hbox
  generalize U seed = x at HE HB2 ⊢
  obtain ⟨n, hn⟩ : ∃ n : Int, n = (L.length : Int) := ⟨_, rfl⟩
  rw [← hn] at HE HB2 ⊢
  clear hn
  go_enter Tryd.func76, Tryd.ntmps76
  have BA : (w.alloc _).heap[w.heap.size]? = _ := blk_new w (.cells #[.int .u64 x, .int .i64 bits, .int .i64 n, .pointer p] MT)
  obtain ⟨⟨a0, a1, a2, a3⟩, -⟩ := box4 BA
  have d3 := fun o => (box4 (blk_alloc BA o)).1.2.2.2
  clear BA
  go_wp2_with (first
    | (go_at_call 102; ((with_reducible refine HE.out.mono ?_); rintro e w1 ⟨⟨v0, rfl⟩, ⟨v, hv, hr, -⟩, hA⟩; rw [List.nil_append] at hr; obtain ⟨A, cap, rfl⟩ := row_slice hr; have k0 := hv.cell; have HV := Lib.hid hv; have HR := Lib.hid hr; have HA := Lib.hid (HB2.out.trans hA.2.1); clear hv hr hA))
    | (go_at_call 104; ((with_reducible refine (HSO.out _ _ HA.out.size HR.out).mono ?_); rintro e w2 ⟨rfl, hs, hk, hb⟩; have k1 := (box1 (hk _ _ _ _ HV.out (by decide))).1; have HSS := Lib.hid hs; have HB := Lib.hid (HA.out.trans hb); clear hs hk hb))
    | fail)
  go_returns
  exact ⟨_, rfl, HSS.out, HB.out⟩
end Go.Proofs.YtnegblckbomgdaaDoor.Ht
end
section
namespace Go.Proofs.YtnegblckbomgdaaDoor.Ht
open Go Go.RowKit Go.Shelf Go.Proofs.YtnegblckbomgdaaDoor.Mem Go.Proofs.YtnegblckbomgdaaDoor.PA Go.Proofs.YtnegblckbomgdaaDoorW.PrintWords Go.Proofs.YtnegblckbomgdaaDoor.U64
def ksV (L : List Pr) : List Value := L.map fun e => Value.string e.1
def xsV (L : List Pr) : List Value := L.map fun e => Value.int .i64 e.2
theorem ksV_one (L : List Pr) : ∀ u ∈ ksV L, u.oneCell' = true := by intro u hu; obtain ⟨x, _, rfl⟩ := List.mem_map.1 hu; rfl
theorem xsV_one (L : List Pr) : ∀ u ∈ xsV L, u.oneCell' = true := by intro u hu; obtain ⟨x, _, rfl⟩ := List.mem_map.1 hu; rfl
theorem ksV_length (L : List Pr) : (ksV L).length = L.length := by simp [ksV]
theorem xsV_length (L : List Pr) : (xsV L).length = L.length := by simp [xsV]
theorem SlV.of_row {w : World} {base n : Nat} {e : TypeId} {v : Value} {xs : List Value} (h : w.ownsRow base e 1 v n xs) (h1 : ∀ u ∈ xs, u.oneCell' = true) : SlV (fun b => base ≤ b) w v xs := by
  have hl : xs.length = n := by have := h.1; omega
  subst hl
  rcases h.2 with ⟨rfl, h0⟩ | ⟨g, cap, cur, rfl, hb, hg, hn, hm, hs, ht⟩
  · obtain rfl := List.eq_nil_of_length_eq_zero h0
    exact SlV.nil _ _
  · exact ⟨some ⟨g, 0, none⟩, cap, rfl, hn, hm, fun _ => ⟨_, rfl, hb, fun j u hu => h.cells rfl j u hu⟩, h1⟩
theorem info_str : (Tryd.prog.info? 9).map (fun i => (i.zero, i.size, i.bytes)) = some (some (.string ⟨#[]⟩), 1, 16) := by kernel_rfl
def KeyI (w1 : World) (L : List Pr) (n k : Nat) (v3 v9 : Value) (wr : World) : Prop :=
  ∃ i : Nat, i + k = n ∧ v9 = .int .i64 (i : Int) ∧ wr.ownsRow w1.heap.size 9 1 v3 i ((ksV L).take i) ∧ Below w1.heap.size w1 wr
set_option maxRecDepth 100000 in
set_option maxHeartbeats 4000000 in
theorem keys_c (c : Cf) (K : Nat → Prop) (v : Value) (L : List Pr) (w : World) (h : MapV c K w v L) (hl : L.length ≤ 1000) (hT : Tab w) :
    Calls Tryd.prog 26 #[v] w (Ret (fun v' w' => SlV (Fresh w) w' v' (ksV L)) w) := by
  obtain ⟨i0, hi, hz0, hz1, hz2⟩ := info_parts info_str
  obtain ⟨n, hn⟩ : ∃ n, n = L.length := ⟨_, rfl⟩
  have h0 := h
  obtain ⟨p, rfl, -⟩ := h
  obtain ⟨seed, bits⟩ := c
  have HP : Hid (∀ V, Below w.heap.size w V → Calls Tryd.prog 76 #[.agg #[.int .u64 (U seed), .int .i64 bits, .int .i64 (L.length : Int), .pointer p]] V (Ret (fun v' w' => SlK 2 (Fresh V) w' v' L.length (prs L)) V)) :=
    Lib.hid fun V hw => pairs_c (seed, bits) K _ L V (h0.below hw) hl (hT.below hw)
  change Calls Tryd.prog 26 #[.agg #[.int .u64 (U seed), .int .i64 bits, .int .i64 (L.length : Int), .pointer p]] w _
  rw [← hn] at HP ⊢
  have hn3 : n ≤ 1000 := by omega
  have hnI : (n : Int) ≤ 1000 := by omega
  generalize U seed = x at HP ⊢
  have HN := Lib.hid hn
  clear h0 hT hl hn
  go_enter Tryd.func26, Tryd.ntmps26
  have BA : (w.alloc _).heap[w.heap.size]? = _ := blk_new w (.cells #[.int .u64 x, .int .i64 bits, .int .i64 (n : Int), .pointer p] MT)
  obtain ⟨⟨a0, a1, a2, a3⟩, -⟩ := box4 BA
  clear BA
  go_wp2_with (first
    | (go_at_call 76; ((with_reducible refine (HP.out _ ((Below.refl _ _).alloc (Nat.le_refl _) _)).mono ?_); rintro e w1 ⟨v, rfl, hs, hb1⟩; obtain ⟨A, cp, rfl⟩ := hs.form; have HS := Lib.hid hs; have HB := Lib.hid (below_trans ((Below.refl _ _).alloc (Nat.le_refl _) _) hb1); have HF := Lib.hid (fun b (h : Fresh (w.alloc (.cells #[.int .u64 x, .int .i64 bits, .int .i64 (n : Int), .pointer p] MT)) b) => Fresh.of (by simp : w.heap.size ≤ _) h); clear hs hb1))
    | fail)
  go_loopg [3, 9] n (fun k v3 v9 wr => Aside (KeyI w1 L n k v3 v9 wr))
  case atStart =>
    show KeyI _ _ _ _ _ _ _
    exact ⟨0, by omega, rfl, by simpa using World.ownsRow_nil _ _ _ _, Below.refl _ _⟩
  case round =>
    obtain ⟨i, hin, rfl, hr, hB⟩ := hrel.out
    clear hrel
    by_cases hlt : i < n
    · have hltI : (i : Int) < (n : Int) := by omega
      obtain ⟨⟨ek, ex⟩, he⟩ : ∃ e, L[i]? = some e := ⟨_, List.getElem?_eq_getElem (by have := HN.out; omega)⟩
      obtain ⟨g, rfl, -, hc⟩ := HS.out.addr (by omega)
      have k0 := cell_below (hc _ _ (prs_get L i _ he).1) hB
      have k1 := cell_below (hc _ _ (prs_get L i _ he).2) hB
      have htk : (ksV L).take (i + 1) = (ksV L).take i ++ [.string ek] := by
        rw [List.take_add_one]; simp [ksV, he]
      have HTK := Lib.hid htk; have HR := Lib.hid hr; have HBB := Lib.hid hB
      have hbw : w1.heap.size ≤ wr.heap.size := hB.size
      have hm63 : i + 1 ≤ maxLen := by unfold maxLen; omega
      have hby : (i + 1) * 16 ≤ 140737488355328 := by omega
      clear hc he htk hr hB
      obtain ⟨gk, rfl⟩ : ∃ g, gk = g + 1 := ⟨gk - 1, by omega⟩
      go_wp2_with (at_builtin; refine wpList_append_own _ rfl _ _ 32 rfl w1.heap.size 9 i0 _ 1 16 Tryd.underlying32 hi hz0 hz1 hz2 rfl (by decide) _ _ _ rfl ((HR.out.alloc _).alloc _) ⟨wr.heap.size + 1, 0, none⟩ 1 1 [.string ek] rfl ?qc1 ?qc2 ?qc3 ?qc4 ?qc5 ?qc6 ?_)
      case qc3 => rfl
      case qc6 => omega
      intro v' w3 hown' hgrow hnil
      have HO3 := Lib.hid hown'
      have HB3 := Lib.hid (below_grown (((HBB.out.alloc hbw _)).alloc (by simp; omega) _) hgrow ((HR.out.alloc _).alloc _) (Nat.le_refl _))
      obtain ⟨g', cap', rfl⟩ := ownsRow_succ hown'
      clear hown' hgrow hnil
      go_wp2_with fail
      go_roundg gk
      case measure => omega
      case rel =>
        show KeyI _ _ _ _ _ _ _
        exact ⟨i + 1, by omega, by first | rfl | (push_cast; rfl), by rw [HTK.out]; exact HO3.out, HB3.out⟩
    · obtain rfl : i = n := by omega
      have HR := Lib.hid hr; have HBB := Lib.hid hB
      clear hr hB
      go_wp2_with fail
      go_returns
      have hr' := HR.out
      rw [List.take_of_length_le (by rw [ksV_length, ← HN.out]; exact Nat.le_refl _)] at hr'
      exact ⟨_, rfl, (SlV.of_row hr' (ksV_one L)).mono fun b hb => Nat.le_trans HB.out.size hb, below_trans HB.out HBB.out⟩
end Go.Proofs.YtnegblckbomgdaaDoor.Ht
end
section
namespace Go.Proofs.YtnegblckbomgdaaDoor.Ht
open Go Go.RowKit Go.Shelf Go.Proofs.YtnegblckbomgdaaDoor.Mem Go.Proofs.YtnegblckbomgdaaDoor.PA Go.Proofs.YtnegblckbomgdaaDoorW.PrintWords
attribute [local go_sem ↓] Go.wp_at_zero Go.wp_at_succ
abbrev RT : TypeId := 35
abbrev TS : TypeId := 9
abbrev TI : TypeId := 3
def RefV (K : Nat → Prop) (w : World) (v : Value) (L : List Pr) : Prop := ∃ s t, v = .agg #[s, t] ∧ SlV K w s (ksV L) ∧ SlV K w t (xsV L)
theorem RefV.mono {K K' : Nat → Prop} {w : World} {v : Value} {L : List Pr} (h : RefV K w v L) (hK : ∀ b, K b → K' b) : RefV K' w v L := by
  obtain ⟨s, t, h1, h2, h3⟩ := h
  exact ⟨s, t, h1, h2.mono hK, h3.mono hK⟩
theorem RefV.below {K : Nat → Prop} {w w' : World} {v : Value} {L : List Pr} (h : RefV K w v L) (hb : Below w.heap.size w w') : RefV K w' v L := by
  obtain ⟨s, t, h1, h2, h3⟩ := h
  exact ⟨s, t, h1, h2.below hb, h3.below hb⟩
theorem RefV.bound {K : Nat → Prop} {w : World} {v : Value} {L : List Pr} (h : RefV K w v L) : RefV (fun b => K b ∧ b < w.heap.size) w v L := by
  obtain ⟨s, t, h1, h2, h3⟩ := h
  exact ⟨s, t, h1, h2.bound, h3.bound⟩
theorem RefV.keep {K : Nat → Prop} {w w' : World} {v : Value} {L : List Pr} (h : RefV K w v L) (hk : ∀ b, K b → b < w.heap.size → w'.heap[b]? = w.heap[b]?) : RefV K w' v L := by
  obtain ⟨s, t, h1, h2, h3⟩ := h
  exact ⟨s, t, h1, h2.keep hk, h3.keep hk⟩
theorem SlV.form' {K : Nat → Prop} {w : World} {v : Value} {xs : List Value} (h : SlV K w v xs) : ∃ A c, v = .slice A xs.length c := by
  obtain ⟨A, c, rfl, _⟩ := h
  exact ⟨A, c, rfl⟩
theorem SlV.caps {K : Nat → Prop} {w : World} {A : Option Addr} {n c : Nat} {xs : List Value} (h : SlV K w (.slice A n c) xs) : xs.length ≤ c ∧ c ≤ maxLen := by
  obtain ⟨A', c', e, h1, h2, _⟩ := h
  injection e with _ _ e
  subst e
  exact ⟨h1, h2⟩
def St (base : Nat) (w0 : World) (os : Value) (xs : List Value) (ox : Value) (ys : List Value) (W : World) : Prop :=
  W.ownsRow base TS 1 os xs.length xs ∧ W.ownsRow base TI 1 ox ys.length ys ∧ Below base w0 W ∧ base ≤ W.heap.size
section
variable {base : Nat} {w0 W W' : World} {os ox : Value} {xs ys : List Value}
theorem St.alloc (h : St base w0 os xs ox ys W) (o : Obj) : St base w0 os xs ox ys (W.alloc o) :=
  ⟨h.1.alloc _, h.2.1.alloc _, h.2.2.1.alloc h.2.2.2 _, by rw [World.size_alloc]; have := h.2.2.2; omega⟩
theorem St.drew (h : St base w0 os xs ox ys W) : St base w0 os xs ox ys W.drew := ⟨h.1, h.2.1, h.2.2.1.drew, h.2.2.2⟩
theorem St.cell (h : St base w0 os xs ox ys W) {a : Addr} {u : Value} (c : w0.cell? a = some u) (hlt : a.block < base) : W.cell? a = some u := (h.2.2.1.cell (p := a) hlt).trans c
theorem apart_of {e e' : TypeId} (hne : e ≠ e') {n m : Nat} (h : W.ownsRow base e 1 os n xs) (k : W.ownsRow base e' 1 ox m ys) : os.ownBlock = none ∨ os.ownBlock ≠ ox.ownBlock := by
  cases hl : os.ownBlock with
  | none => exact .inl rfl
  | some k' =>
    refine .inr fun e => ?_
    obtain ⟨c1, h1⟩ := own_typed h k' hl
    obtain ⟨c2, h2⟩ := own_typed k k' e.symm
    rw [h1] at h2
    injection h2 with h2
    injection h2 with _ h2
    exact absurd h2 hne
theorem St.keys (h : St base w0 os xs ox ys W) {os' : Value} {u : List Value} {n : Nat} (ho : W'.ownsRow base TS 1 os' n (xs ++ u)) (hn : n = xs.length + u.length) (hg : W.grownBy W' os.ownBlock) : St base w0 os' (xs ++ u) ox ys W' :=
  ⟨by rw [List.length_append, ← hn]; exact ho, h.2.1.kept hg (apart_of (by decide) h.2.1 h.1), h.2.2.1.grown hg h.2.2.2 fun k hk => own_base h.1 k hk, Nat.le_trans h.2.2.2 hg.size⟩
theorem St.things (h : St base w0 os xs ox ys W) {ox' : Value} {u : List Value} {n : Nat} (ho : W'.ownsRow base TI 1 ox' n (ys ++ u)) (hn : n = ys.length + u.length) (hg : W.grownBy W' ox.ownBlock) : St base w0 os xs ox' (ys ++ u) W' :=
  ⟨h.1.kept hg (apart_of (by decide) h.1 h.2.1), by rw [List.length_append, ← hn]; exact ho, h.2.2.1.grown hg h.2.2.2 fun k hk => own_base h.2.1 k hk, Nat.le_trans h.2.2.2 hg.size⟩
end
def Bl (t : TypeId) (b : Nat) (u : Value) (W : World) : Prop := W.heap[b]? = some (.cells #[u] t (0, 0))
theorem Bl.alloc {t : TypeId} {b : Nat} {u : Value} {W : World} (h : Bl t b u W) (o : Obj) : Bl t b u (W.alloc o) := blk_alloc h o
theorem Bl.new (t : TypeId) (u : Value) (W : World) : Bl t W.heap.size u (W.alloc (.cells #[u] t)) := blk_new W _
theorem Bl.new1 (t : TypeId) (u : Value) (W : World) (o : Obj) : Bl t (W.heap.size + 1) u ((W.alloc o).alloc (.cells #[u] t)) := heap_k1 W o _
theorem Bl.grown {t e : TypeId} {b base n : Nat} {u v : Value} {xs : List Value} {W W' : World} (h : Bl t b u W) (ho : W.ownsRow base e 1 v n xs) (hne : t ≠ e) (hg : W.grownBy W' v.ownBlock) : Bl t b u W' := by
  refine (hg.block b (blk_lt h) fun e' => ?_).trans h
  obtain ⟨c, hc⟩ := own_typed ho b e'.symm
  rw [show W.heap[b]? = _ from h] at hc
  injection hc with hc
  injection hc with _ hc _
  exact hne hc
theorem Bl.slv {t : TypeId} {b : Nat} {u : Value} {W : World} (h : Bl t b u W) (h1 : u.oneCell' = true) : SlV (fun _ => True) W (.slice (some ⟨b, 0, none⟩) 1 1) [u] :=
  SlV.blk (K := fun _ => True) (cs := #[u]) (xs := [u]) (c := 1) h (fun j v hj => by simpa using hj) (by simp) (by simp [maxLen]) (by intro v hv; simp at hv; subst hv; exact h1) trivial
theorem info_int : (Tryd.prog.info? TI).map (fun i => (i.zero, i.size, i.bytes)) = some (some (.int .i64 0), 1, 8) := by kernel_rfl
def CutB (w : World) (m0 m1 os ox : Value) (M : List Pr) (wr : World) : Prop :=
  wr.heap[w.heap.size + 2]? = some (.cells #[os, ox] RT (0, 0)) ∧ wr.heap[w.heap.size + 1]? = some (.cells #[.slice none 0 0, .slice none 0 0] RT (0, 0)) ∧ wr.heap[w.heap.size]? = some (.cells #[m0, m1] RT (0, 0)) ∧
    wr.ownsRow (w.heap.size + 3) TS 1 os (ksV M).length (ksV M) ∧ wr.ownsRow (w.heap.size + 3) TI 1 ox (xsV M).length (xsV M) ∧ Below w.heap.size w wr
theorem cut_put {w wr wF : World} {m0 m1 os ox os' ox' : Value} {M M' : List Pr} (h : CutB w m0 m1 os ox M wr) (hs : St (w.heap.size + 3) wr os' (ksV M') ox' (xsV M') wF) :
    CutB w m0 m1 os' ox' M' ((wF.setCell ⟨w.heap.size + 2, 0, none⟩ os').setCell ⟨w.heap.size + 2, 1, none⟩ ox') := by
  obtain ⟨h1, h2, h3, h4, h5, h6⟩ := h
  obtain ⟨k1, k2, k3, k4⟩ := hs
  have hk : ∀ {v : Value} {e : TypeId} {n : Nat} {xs : List Value}, wF.ownsRow (w.heap.size + 3) e 1 v n xs → ((wF.setCell ⟨w.heap.size + 2, 0, none⟩ os').setCell ⟨w.heap.size + 2, 1, none⟩ ox').ownsRow (w.heap.size + 3) e 1 v n xs := fun ho =>
    own_move ho fun k hk => by
      have hb := own_base ho k hk
      rw [Below.heap_setCell _ _ _ _ (show k ≠ w.heap.size + 2 by omega), Below.heap_setCell _ _ _ _ (show k ≠ w.heap.size + 2 by omega)]
  refine ⟨put2 ((k3.block _ (by omega)).trans h1), ?_, ?_, hk k1, hk k2, ?_⟩
  · rw [Below.heap_setCell _ _ _ _ (show w.heap.size + 1 ≠ w.heap.size + 2 by omega), Below.heap_setCell _ _ _ _ (show w.heap.size + 1 ≠ w.heap.size + 2 by omega)]
    exact (k3.block _ (by omega)).trans h2
  · rw [Below.heap_setCell _ _ _ _ (show w.heap.size ≠ w.heap.size + 2 by omega), Below.heap_setCell _ _ _ _ (show w.heap.size ≠ w.heap.size + 2 by omega)]
    exact (k3.block _ (by omega)).trans h3
  · exact ((h6.trans (k3.mono (by omega))).setCell (p := ⟨w.heap.size + 2, 0, none⟩) (show w.heap.size ≤ w.heap.size + 2 by omega) _).setCell (p := ⟨w.heap.size + 2, 1, none⟩) (show w.heap.size ≤ w.heap.size + 2 by omega) _
theorem ksV_snoc (M : List Pr) (k : ByteArray) (x : Int) : ksV (M ++ [(k, x)]) = ksV M ++ [.string k] := by simp [ksV]
theorem xsV_snoc (M : List Pr) (k : ByteArray) (x : Int) : xsV (M ++ [(k, x)]) = xsV M ++ [.int .i64 x] := by simp [xsV]
theorem cut_put1 {w wr wF : World} {m0 m1 os ox os' ox' : Value} {M : List Pr} {k : ByteArray} {x : Int} (h : CutB w m0 m1 os ox M wr) (hs : St (w.heap.size + 3) wr os' (ksV M ++ [.string k]) ox' (xsV M ++ [.int .i64 x]) wF) :
    CutB w m0 m1 os' ox' (M ++ [(k, x)]) ((wF.setCell ⟨w.heap.size + 2, 0, none⟩ os').setCell ⟨w.heap.size + 2, 1, none⟩ ox') := cut_put h (by rw [ksV_snoc, xsV_snoc]; exact hs)
end Go.Proofs.YtnegblckbomgdaaDoor.Ht
end
section
namespace Go.Proofs.YtnegblckbomgdaaDoor.Ht
open Go Go.RowKit Go.Proofs.YtnegblckbomgdaaDoor.Mem Go.Proofs.YtnegblckbomgdaaDoor.PA Go.Proofs.YtnegblckbomgdaaDoorW.PrintWords Go.Proofs.YtnegblckbomgdaaDoorW.PrintLast Go.Proofs.YtnegblckbomgdaaDoor.Bs
def orL (l m : List UInt8) : Int := if Op.bytesLess l m = true then -1 else if Op.bytesLess m l = true then 1 else 0
def com : List UInt8 → List UInt8 → Nat
  | c :: l, d :: m => if c = d then com l m + 1 else 0
  | _, _ => 0
theorem common_loop (l m : List UInt8) (hl : l.length ≤ 100000000) (a : List UInt8) : ∀ (b : List UInt8) (i : Nat), l.drop i = a → m.drop i = b → i ≤ l.length → i ≤ m.length →
    Ev (fun k => placketref02_Common.l0 k (bs l) (bs m) (i : Int)) ((i + com a b : Nat) : Int) := by
  induction a with
  | nil =>
    intro b i ha hb hi hj
    have hlen : l.length ≤ i := List.drop_eq_nil_iff.1 ha
    refine Ev.ge 1 fun k => ?_
    simp only [placketref02_Common.l0]
    rw [if_neg (by rw [bs_size]; omega)]; cases b <;> rfl
  | cons c a ih =>
    intro b i ha hb hi hj
    obtain ⟨hlt, hd, hg⟩ := drop_cons ha
    cases b with
    | nil =>
      have hlen : m.length ≤ i := List.drop_eq_nil_iff.1 hb
      refine Ev.ge 1 fun k => ?_
      simp only [placketref02_Common.l0]
      rw [if_pos (by rw [bs_size]; omega), if_neg (by rw [bs_size]; omega)]; rfl
    | cons d b =>
      obtain ⟨hlt2, hd2, hg2⟩ := drop_cons hb
      unfold com
      by_cases h : c = d
      · subst h
        have hs := ih b (i + 1) hd hd2 (by omega) (by omega)
        rw [if_pos rfl, show i + (com a b + 1) = i + 1 + com a b by omega]
        refine Ev.step (fun k => ?_) hs
        simp only [placketref02_Common.l0]
        rw [if_pos (by rw [bs_size]; omega), if_pos (by rw [bs_size]; omega), if_pos (by omega), bt_at hg, bt_at hg2, if_pos rfl, w64_succ (by omega)]
      · refine Ev.ge 1 fun k => ?_
        simp only [placketref02_Common.l0]
        rw [if_pos (by rw [bs_size]; omega), if_pos (by rw [bs_size]; omega), if_pos (by omega), bt_at hg, bt_at hg2, if_neg (mt (byte_eq c d).1 h), if_neg h]; rfl
theorem common_ev (l m : List UInt8) (hl : l.length ≤ 100000000) : Ev (fun k => placketref02_Common.f k (bs l) (bs m)) ((com l m : Nat) : Int) := by
  unfold placketref02_Common.f
  have := common_loop l m hl l m 0 rfl rfl (by omega) (by omega)
  rw [Nat.zero_add] at this
  exact this
theorem orL_cons (c : UInt8) (l m : List UInt8) : orL (c :: l) (c :: m) = orL l m := by
  unfold orL
  simp [Op.bytesLess]
theorem orL_head {c d : UInt8} (h : c ≠ d) (l m : List UInt8) : orL (c :: l) (d :: m) = if c.toNat < d.toNat then -1 else 1 := by
  unfold orL
  have h' : c.toNat ≠ d.toNat := fun e => h (UInt8.toNat_inj.1 e)
  have e1 : (c == d) = false := beq_false_of_ne h
  have e2 : (d == c) = false := beq_false_of_ne (Ne.symm h)
  simp only [Op.bytesLess, e1, e2, Bool.false_and, Bool.or_false, decide_eq_true_eq, UInt8.lt_iff_toNat_lt]
  by_cases hlt : c.toNat < d.toNat
  · rw [if_pos hlt, if_pos hlt]
  · rw [if_neg hlt, if_neg hlt, if_pos (by omega)]
theorem com_cases (l : List UInt8) : ∀ m : List UInt8, com l m ≤ l.length ∧ com l m ≤ m.length ∧
    (com l m = l.length → com l m = m.length → orL l m = 0) ∧ (com l m = l.length → com l m ≠ m.length → orL l m = -1) ∧ (com l m ≠ l.length → com l m = m.length → orL l m = 1) ∧
    (com l m < l.length → com l m < m.length → ∃ c d, l[com l m]? = some c ∧ m[com l m]? = some d ∧ c ≠ d ∧ orL l m = if c.toNat < d.toNat then -1 else 1) := by
  induction l with
  | nil =>
    intro m
    have e : com [] m = 0 := by cases m <;> rfl
    rw [e]
    refine ⟨by simp, by simp, ?_, ?_, fun h => absurd rfl h, fun h => absurd h (by simp)⟩
    · intro _ h; cases m with
      | nil => rfl
      | cons d m => simp at h
    · intro _ h; cases m with
      | nil => exact absurd rfl h
      | cons d m => rfl
  | cons c l ih =>
    intro m
    cases m with
    | nil =>
      show 0 ≤ _ ∧ _
      refine ⟨by simp, by simp [com], fun h => ?_, fun h => ?_, fun _ _ => rfl, fun _ h => ?_⟩
      · simp [com] at h
      · simp [com] at h
      · simp [com] at h
    | cons d m =>
      by_cases h : c = d
      · subst h
        have e : com (c :: l) (c :: m) = com l m + 1 := by simp [com]
        obtain ⟨i1, i2, i3, i4, i5, i6⟩ := ih m
        rw [e, orL_cons]
        refine ⟨by simp; omega, by simp; omega, fun a b => i3 (by simp at a; omega) (by simp at b; omega), fun a b => i4 (by simp at a; omega) (by simp at b; omega), fun a b => i5 (by simp at a; omega) (by simp at b; omega), fun a b => ?_⟩
        obtain ⟨x, y, hx, hy, hne, ho⟩ := i6 (by simp at a; omega) (by simp at b; omega)
        exact ⟨x, y, by simpa using hx, by simpa using hy, hne, ho⟩
      · have e : com (c :: l) (d :: m) = 0 := by simp [com, h]
        rw [e]
        refine ⟨by simp, by simp, fun a => ?_, fun a => ?_, fun _ b => ?_, fun _ _ => ⟨c, d, rfl, rfl, h, orL_head h l m⟩⟩
        · simp at a
        · simp at a
        · simp at b
theorem rorder_ev (l m : List UInt8) (hl : l.length ≤ 100000000) : Ev (fun k => placketref02_Order.f k (bs l) (bs m)) (orL l m) := by
  obtain ⟨i1, i2, i3, i4, i5, i6⟩ := com_cases l m
  unfold placketref02_Order.f
  refine Ev.bind (common_ev l m hl) ?_
  refine Ev.ge 1 fun k => ?_
  rw [bs_size, bs_size]
  by_cases ha : com l m = l.length
  · rw [if_pos (by omega)]
    by_cases hb : com l m = m.length
    · simp only [placketref02_Order.j0]
      rw [if_pos (by rw [hb]; exact beq_self_eq_true _), i3 ha hb]
    · have e : (((com l m : Nat) : Int) == (m.length : Int)) = false := beq_false_of_ne (by omega)
      simp only [placketref02_Order.j0, e, Bool.false_eq_true, if_false]
      rw [if_pos (by rw [bs_size]; omega), i4 ha hb]
  · rw [if_neg (by omega)]
    simp only [placketref02_Order.j0, Bool.false_eq_true, if_false]
    rw [if_neg (by rw [bs_size]; omega)]
    by_cases hb : com l m = m.length
    · rw [if_pos (by rw [bs_size]; omega), i5 ha hb]
    · obtain ⟨c, d, hc, hd, hne, ho⟩ := i6 (by omega) (by omega)
      rw [if_neg (by rw [bs_size]; omega), if_pos (by omega), if_pos (by rw [bs_size]; omega), if_pos (by rw [bs_size]; omega), bt_at hc, bt_at hd, ho]
      by_cases hlt : c.toNat < d.toNat
      · rw [if_pos (by omega), if_pos hlt]
      · rw [if_neg (by omega), if_neg hlt]
theorem rorder_ev' (a b : ByteArray) (ha : a.size ≤ 100000000) : Ev (fun k => placketref02_Order.f k a b) (ordB a b) := by
  have h := rorder_ev a.data.toList b.data.toList (by rw [Array.length_toList]; exact ha)
  rw [← bs_of, ← bs_of] at h
  have e : orL a.data.toList b.data.toList = ordB a b := by
    unfold orL ordB klt
    rw [ByteArray.toList_eq, ByteArray.toList_eq]
  rwa [e] at h
def keysL (L : List Pr) : List ByteArray := L.map (·.1)
def thingsL (L : List Pr) : List Int := L.map (·.2)
theorem keysL_length (L : List Pr) : (keysL L).length = L.length := by simp [keysL]
theorem thingsL_length (L : List Pr) : (thingsL L).length = L.length := by simp [thingsL]
theorem keys_C {K : Nat → Prop} {w : World} {A : Option Addr} {n c : Nat} {L : List Pr} (h : SlV K w (.slice A n c) (ksV L)) : n = (keysL L).length ∧ Kd.string.C w A (keysL L).length (keysL L) ∧ (keysL L).length ≤ c := by
  have hn : n = L.length := by have := h.len; rwa [ksV_length] at this
  obtain ⟨A', c', he, h1, h2, h3, h4⟩ := h
  injection he with hA hl hc
  subst hA hc
  rw [ksV_length] at h1 h3
  rw [keysL_length]
  refine ⟨hn, Kd.C_of_reads (enc := Value.string) (d := ByteArray.empty) (h1 := fun _ => rfl) ⟨keysL_length L, by unfold maxLen at h2; omega, fun hp => ?_⟩, h1⟩
  obtain ⟨ad, e, _, hcell⟩ := h3 hp
  refine ⟨ad, e, fun j hj => hcell j _ ?_⟩
  simp [ksV, keysL, List.getElem?_eq_getElem hj, List.getD_eq_getElem?_getD]
theorem things_C {K : Nat → Prop} {w : World} {A : Option Addr} {n c : Nat} {L : List Pr} (h : SlV K w (.slice A n c) (xsV L)) : n = (thingsL L).length ∧ (Kd.int .i64).C w A (thingsL L).length (thingsL L) ∧ (thingsL L).length ≤ c := by
  have hn : n = L.length := by have := h.len; rwa [xsV_length] at this
  obtain ⟨A', c', he, h1, h2, h3, h4⟩ := h
  injection he with hA hl hc
  subst hA hc
  rw [xsV_length] at h1 h3
  rw [thingsL_length]
  refine ⟨hn, Kd.C_of_reads (enc := Value.int .i64) (d := (0 : Int)) (h1 := fun _ => rfl) ⟨thingsL_length L, by unfold maxLen at h2; omega, fun hp => ?_⟩, h1⟩
  obtain ⟨ad, e, _, hcell⟩ := h3 hp
  refine ⟨ad, e, fun j hj => hcell j _ ?_⟩
  simp [xsV, thingsL, List.getElem?_eq_getElem hj, List.getD_eq_getElem?_getD]
theorem rd_keys {L : List Pr} {i : Nat} {e : Pr} (h : L[i]? = some e) : rdOf ByteArray.empty (keysL L) (i : Int) = e.1 := by
  simp [rdOf, keysL, List.getD_eq_getElem?_getD, h]
theorem at_loop (L : List Pr) (hS : Srt L) (hSm : Sm L) (hl : L.length ≤ 1000000) (k : ByteArray) : ∀ (d i : Nat), i + d = L.length → i ≤ rnk L k →
    Ev (fun f => placketref09_Map_At.l0 f k (keysL L) (L.length : Int) (i : Int) (keysL L) (thingsL L)) ((rnk L k : Int), (lkp L k).isSome)
  | 0, i, hi, hr => by
    have hr2 : rnk L k = i := by have := rnk_le L k; omega
    have hno : (lkp L k).isSome = false := by
      cases h : lkp L k with
      | none => rfl
      | some x =>
        have := get_rnk hS h
        rw [hr2] at this
        have := (List.getElem?_eq_some_iff.1 this).1
        omega
    refine Ev.ge 1 fun f => ?_
    simp only [placketref09_Map_At.l0]
    rw [if_neg (by omega), keysL_length, hno, hr2]
    rw [show i = L.length by omega]
  | d + 1, i, hi, hr => by
    have hlt : i < L.length := by omega
    have he : L[i]? = some L[i] := List.getElem?_eq_getElem hlt
    generalize L[i] = e at he
    have hez : e.1.size ≤ 100000000 := Nat.le_trans (hSm e (List.mem_of_getElem? he)) (by decide)
    have hsp := rnk_lt hS he (k := k)
    by_cases hc : i < rnk L k
    · have ih := at_loop L hS hSm hl k d (i + 1) (by omega) (by omega)
      have ho : ordB e.1 k < 0 := ordB_neg.2 (hsp.2 hc)
      have h1 := rorder_ev' e.1 k hez
      refine Ev.shift 1 ?_
      obtain ⟨K1, h1⟩ := h1
      obtain ⟨K2, ih⟩ := ih
      refine ⟨max K1 K2, fun f hf => ?_⟩
      simp only [placketref09_Map_At.l0]
      rw [if_pos (by omega), if_pos (by omega), if_pos (by rw [keysL_length]; omega), rd_keys he, (show placketref02_Order.f f e.1 k = some (ordB e.1 k) from h1 f (by omega)), Option.bind_some, if_neg (by omega), w64_succ (by omega)]
      exact ih f (by omega)
    · have hr2 : rnk L k = i := by omega
      have ho : ¬ ordB e.1 k < 0 := fun h => hc (hsp.1 (ordB_neg.1 h))
      obtain ⟨K1, h1⟩ := rorder_ev' e.1 k hez
      refine Ev.shift 1 ⟨K1, fun f hf => ?_⟩
      simp only [placketref09_Map_At.l0]
      rw [if_pos (by omega), if_pos (by omega), if_pos (by rw [keysL_length]; omega), rd_keys he, (show placketref02_Order.f f e.1 k = some (ordB e.1 k) from h1 f hf), Option.bind_some, if_pos (by omega), hr2]
      congr 2
      have hh := rnk_hit hS (k := k)
      rw [hr2, he] at hh
      cases hk : lkp L k with
      | none =>
        rw [hk] at hh
        exact str_ne fun e' => (hh.1 ⟨_, rfl, e'⟩) rfl
      | some x =>
        rw [hk] at hh
        obtain ⟨e', e1, e2⟩ := hh.2 (by simp)
        cases e1
        simp [e2]
theorem at_ev (L : List Pr) (hS : Srt L) (hSm : Sm L) (hl : L.length ≤ 1000000) (k : ByteArray) : Ev (fun f => placketref09_Map_At.f f (keysL L) (thingsL L) k) ((rnk L k : Int), (lkp L k).isSome) := by
  unfold placketref09_Map_At.f
  rw [keysL_length]
  exact at_loop L hS hSm hl k L.length 0 (by omega) (Nat.zero_le _)
theorem refat_c (K : Nat → Prop) (v : Value) (L : List Pr) (hS : Srt L) (hSm : Sm L) (hl : L.length ≤ 1000000) (k : ByteArray) (w : World) (h : RefV K w v L) :
    Calls Tryd.prog 81 #[v, .string k] w (Ret (fun u _ => u = .tuple #[.int .i64 (rnk L k : Int), .bool (lkp L k).isSome]) w) := by
  obtain ⟨s, t, rfl, hs, ht⟩ := h
  obtain ⟨A1, c1, rfl⟩ := SlV.form' hs
  obtain ⟨A2, c2, rfl⟩ := SlV.form' ht
  rw [ksV_length] at hs ⊢
  rw [xsV_length] at ht ⊢
  obtain ⟨e1, C1, b1⟩ := keys_C hs
  obtain ⟨e2, C2, b2⟩ := things_C ht
  obtain ⟨f, hf⟩ := at_ev L hS hSm hl k
  have := placketref09_Map_At.calls f A1 c1 (keysL L) A2 c2 (thingsL L) k _ _ w C1 b1 C2 b2 (hf f (Nat.le_refl _))
  rw [← e1, ← e2] at this
  exact this.mono fun e w' h => ⟨_, h.1, rfl, h.2⟩
end Go.Proofs.YtnegblckbomgdaaDoor.Ht
end
section
namespace Go.Proofs.YtnegblckbomgdaaDoor.RegL
open Go
def calm (stops : List Nat) (listed : Array Bool) : Bool := stops.all fun s => !(listed.getD s true)
def reach (md : Region.Mode) (ops : Array Oper) : Nat → Nat → Nat → Bool
  | 0, _, _ => false
  | n + 1, s, i => match ops[s]? with
    | some o => o.after.any fun e => Region.binds md e && (e.on == i || reach md ops n e.on i)
    | none => false
def waits (md : Region.Mode) (ops : Array Oper) (stops : List Nat) (i : Nat) : Bool := stops.all fun s => s != i && reach md ops 6 s i
def Closed (md : Region.Mode) (ops : Array Oper) (listed : Array Bool) : Prop := ∀ j o, ops[j]? = some o → listed.getD j false = true → ∀ e ∈ o.after, Region.binds md e = true → listed.getD e.on false = true
def closedB (md : Region.Mode) (ops : Array Oper) (listed : Array Bool) : Bool := (List.range ops.size).all fun j => !(listed.getD j false) || match ops[j]? with
  | some o => o.after.all fun e => !Region.binds md e || listed.getD e.on false
  | none => true
theorem closed_spec {md : Region.Mode} {ops : Array Oper} {listed : Array Bool} (h : closedB md ops listed = true) : Closed md ops listed := by
  intro j o ho hl e he hb
  have h1 := List.all_eq_true.1 h j (List.mem_range.2 (Array.getElem?_eq_some_iff.1 ho).1)
  rw [hl, ho] at h1
  have h3 : (o.after.all fun e => !Region.binds md e || listed.getD e.on false) = true := h1
  have h2 := Array.all_eq_true'.1 h3 e he
  rw [hb] at h2
  exact h2
theorem reach_spec {md : Region.Mode} {ops : Array Oper} {listed : Array Bool} (hc : Closed md ops listed) {i : Nat} : ∀ (n s : Nat), (∀ o, ops[s]? = some o → ∀ e ∈ o.after, Region.binds md e = true → listed.getD e.on false = true) → reach md ops n s i = true → listed.getD i false = true
  | 0, s, _, h => by cases h
  | n + 1, s, hs, h => by
    unfold reach at h
    cases ho : ops[s]? with
    | none => rw [ho] at h; cases h
    | some o =>
      rw [ho] at h
      obtain ⟨e, he, hb⟩ := Array.any_eq_true'.1 h
      rw [Bool.and_eq_true, Bool.or_eq_true] at hb
      have hl := hs o ho e he hb.1
      rcases hb.2 with h1 | h1
      · rw [← (by simpa using h1 : e.on = i)]; exact hl
      · exact reach_spec hc n e.on (fun o' ho' => hc _ _ ho' hl) h1
theorem closed_step {md : Region.Mode} {ops : Array Oper} {listed : Array Bool} {j : Nat} (hc : Closed md ops listed) (hj : j ∈ Region.ready md ops listed) : Closed md ops (listed.setIfInBounds j true) := by
  intro k o ho hl e he hb
  by_cases hjk : j = k
  · subst hjk
    obtain ⟨-, o', ho', hall⟩ := mem_ready.1 hj
    rw [ho] at ho'
    injection ho' with ho'
    subst ho'
    exact getD_set_true (hall e he hb)
  · rw [getD_set_ne false hjk] at hl
    exact getD_set_true (hc k o ho hl e he hb)
theorem calm_set {stops : List Nat} {listed : Array Bool} {j : Nat} (h : ∀ s ∈ stops, s ≠ j) : calm stops (listed.setIfInBounds j true) = calm stops listed := by
  unfold calm
  rw [Bool.eq_iff_iff, List.all_eq_true, List.all_eq_true]
  constructor
  · intro hh s hs
    have := hh s hs
    rwa [getD_set_ne true (Ne.symm (h s hs))] at this
  · intro hh s hs
    rw [getD_set_ne true (Ne.symm (h s hs))]
    exact hh s hs
section
variable {P : Program} {ops : Array Oper} {Q : Exit → Act → World → Prop} {md : Region.Mode} {S : World → Prop} {stops : List Nat}
def wpAnyL (P : Program) (md : Region.Mode) (ops : Array Oper) (Q : Exit → Act → World → Prop) (stops : List Nat) (S : World → Prop) : Nat → Array Bool → Act → World → Prop
  | 0, listed, a, w => Region.ready md ops listed = [] ∧ Q .normal a w
  | fuel + 1, listed, a, w => (Region.ready md ops listed = [] → Q .normal a w) ∧
      ∀ i ∈ Region.ready md ops listed, wpOp P ops Q i (fun a' w' => (calm stops (listed.setIfInBounds i true) = true → S w') ∧ wpAnyL P md ops Q stops S fuel (listed.setIfInBounds i true) a' w') a w
theorem wpAny_of_late : ∀ (fuel : Nat) (listed : Array Bool) (a : Act) (w : World), wpAnyL P md ops Q stops S fuel listed a w → wpAny P md ops Q fuel listed a w
  | 0, _, _, _, h => h
  | fuel + 1, _, _, _, h => ⟨h.1, fun i hi => wpOp_mono (fun a' w' h' => wpAny_of_late fuel _ a' w' h'.2) (h.2 i hi)⟩
theorem wpAnyL_first {i : Nat} {oi : Oper} {v : Value} (hi : ops[i]? = some oi) (hsel : ∀ (j : Nat) (o : Oper) cs b, ops[j]? = some o → o.op ≠ .select cs b)
    (hQ : ∀ c a w, Q (.panic c) (a.put oi.dst v) w → Q (.panic c) a w) (hwait : ∀ s ∈ stops, s ≠ i ∧ reach md ops 6 s i = true) :
    ∀ (fuel : Nat) (listed : Array Bool) (a : Act) (w : World),
      (∀ j oj, ops[j]? = some oj → j ≠ i → listed.getD j true = false → (∀ e ∈ oj.after, Region.binds md e = true → e.on ≠ i) → oi.apart ops oj = true) →
      i ∈ Region.ready md ops listed → Closed md ops listed → calm stops listed = true → YieldsIf P ops S oi v a → S w →
      wpAnyL P md ops Q stops S fuel (listed.setIfInBounds i true) (a.put oi.dst v) w → wpAnyL P md ops Q stops S (fuel + 1) listed a w := by
  intro fuel
  induction fuel with
  | zero =>
    intro listed a w _ hr hcl hc hy hS H
    refine ⟨fun h => (by rw [h] at hr; cases hr), fun j hj => ?_⟩
    by_cases hji : j = i
    · subst hji; exact hy.wpOp hi hS ⟨fun _ => hS, H⟩
    · have := ready_mono hj hji
      rw [H.1] at this
      cases this
  | succ fuel ih =>
    intro listed a w hfree hr hcl hc hy hS H
    refine ⟨fun h => (by rw [h] at hr; cases hr), fun j hj => ?_⟩
    by_cases hji : j = i
    · subst hji; exact hy.wpOp hi hS ⟨fun _ => hS, H⟩
    · have h1 := H.2 j (ready_mono hj hji)
      obtain ⟨hjun, oj, hoj, hall⟩ := mem_ready.1 hj
      have hun : listed.getD i true = false := (mem_ready.1 hr).1
      have hnl : ¬ listed.getD i false = true := fun h1 => by
        rcases Nat.lt_or_ge i listed.size with h' | h'
        · simp [h'] at hun h1; rw [hun] at h1; cases h1
        · simp [Array.getElem?_eq_none h'] at h1
      have hnot : ∀ e ∈ oj.after, Region.binds md e = true → e.on ≠ i := fun e he hb heq => hnl (by rw [← heq]; exact hall e he hb)
      have hjs : ∀ s ∈ stops, s ≠ j := fun s hs e => by
        subst e
        exact hnl (reach_spec hcl 6 s (fun o ho e he hb => by
          rw [hoj] at ho
          injection ho with ho
          subst ho
          exact hall e he hb) (hwait s hs).2)
      have hcj : calm stops (listed.setIfInBounds j true) = true := by rw [calm_set hjs]; exact hc
      have hcij : calm stops ((listed.setIfInBounds i true).setIfInBounds j true) = true := by rw [calm_set hjs, calm_set fun s hs => (hwait s hs).1]; exact hc
      have h2 := wpOp_putIf hoj (hfree j oj hoj hji hjun hnot) (fun cs b => hsel i oi cs b hi) (fun cs b => hsel j oj cs b hoj) hQ hy h1
      have hfree' : ∀ k ok, ops[k]? = some ok → k ≠ i → (listed.setIfInBounds j true).getD k true = false →
          (∀ e ∈ ok.after, Region.binds md e = true → e.on ≠ i) → oi.apart ops ok = true := fun k ok hk hki hun hno => by
        refine hfree k ok hk hki ?_ hno
        by_cases hjk : j = k
        · subst hjk; exact hjun
        · rw [getD_set_ne true hjk] at hun; exact hun
      refine wpOp_mono (fun a' w' h3 => ⟨fun _ => h3.2.1 hcij, ih (listed.setIfInBounds j true) a' w' hfree' (ready_mono hr (Ne.symm hji)) (closed_step hcl hj) hcj h3.1 (h3.2.1 hcij) ?_⟩) h2
      rw [Array.setIfInBounds_comm _ _ hji]
      exact h3.2.2
theorem waits_spec {i : Nat} (h : waits md ops stops i = true) : ∀ s ∈ stops, s ≠ i ∧ reach md ops 6 s i = true := by
  intro s hs
  have h1 := List.all_eq_true.1 h s hs
  rw [Bool.and_eq_true] at h1
  exact ⟨by simpa using h1.1, h1.2⟩
theorem wpAnyL_take {i : Nat} {oi : Oper} {v : Value} {fuel : Nat} {listed : Array Bool} {a : Act} {w : World} (hi : ops[i]? = some oi)
    (hs : Region.noSelect ops = true) (hf : Region.free md ops listed i = true) (hr : (Region.ready md ops listed).contains i = true) (hw : waits md ops stops i = true) (hcl : closedB md ops listed = true) (hc : calm stops listed = true)
    (hQ : ∀ c a w, Q (.panic c) (a.put oi.dst v) w → Q (.panic c) a w) (hy : YieldsIf P ops S oi v a) (hS : S w)
    (h : wpAnyL P md ops Q stops S fuel (listed.setIfInBounds i true) (a.put oi.dst v) w) : wpAnyL P md ops Q stops S (fuel + 1) listed a w :=
  wpAnyL_first hi (Region.noSelect_spec hs) hQ (waits_spec hw) fuel listed a w (Region.free_spec hi hf) (by simpa using hr) (closed_spec hcl) hc hy hS h
theorem wpAnyL_done {listed : Array Bool} {a : Act} {w : World} (hr : Region.ready md ops listed = []) (h : Q .normal a w) : ∀ fuel, wpAnyL P md ops Q stops S fuel listed a w
  | 0 => ⟨hr, h⟩
  | _ + 1 => ⟨fun _ => h, by rw [hr]; simp⟩
def AllReadyL (P : Program) (md : Region.Mode) (ops : Array Oper) (Q : Exit → Act → World → Prop) (stops : List Nat) (S : World → Prop) (fuel : Nat) (listed : Array Bool) (a : Act) (w : World) (rs : List Nat) : Prop :=
  ∀ i ∈ rs, wpOp P ops Q i (fun a' w' => (calm stops (listed.setIfInBounds i true) = true → S w') ∧ wpAnyL P md ops Q stops S fuel (listed.setIfInBounds i true) a' w') a w
theorem wpAnyL_ready {rs : List Nat} {fuel : Nat} {listed : Array Bool} {a : Act} {w : World} (hr : Region.ready md ops listed = rs) (hne : rs ≠ [])
    (h : AllReadyL P md ops Q stops S fuel listed a w rs) : wpAnyL P md ops Q stops S (fuel + 1) listed a w := ⟨fun h0 => absurd (hr ▸ h0) hne, hr ▸ h⟩
theorem AllReadyL.nil {fuel : Nat} {listed : Array Bool} {a : Act} {w : World} : AllReadyL P md ops Q stops S fuel listed a w [] := fun _ h => by cases h
theorem AllReadyL.calm {fuel : Nat} {listed : Array Bool} {a : Act} {w : World} {i : Nat} {o : Oper} {rs : List Nat} (ho : ops[i]? = some o)
    (h : ∀ K' : Act → World → Prop, Shut (∀ a w, S w → (S w → wpAnyL P md ops Q stops S fuel (listed.setIfInBounds i true) a w) → K' a w) → if Region.wanted o (yielded ops a.tmps) = true then Oper.wp P o a w K' Q else K' (a.put o.dst undef) w)
    (hs : AllReadyL P md ops Q stops S fuel listed a w rs) : AllReadyL P md ops Q stops S fuel listed a w (i :: rs) := fun j hj => by
  rcases List.mem_cons.1 hj with rfl | hj
  · exact wpOp_step ho (fun K' hK => h K' (fun a w hS hW => hK a w ⟨fun _ => hS, hW hS⟩))
  · exact hs j hj
theorem AllReadyL.late {fuel : Nat} {listed : Array Bool} {a : Act} {w : World} {i : Nat} {o : Oper} {rs : List Nat} (ho : ops[i]? = some o) (hl : RegL.calm stops (listed.setIfInBounds i true) = false)
    (h : ∀ K' : Act → World → Prop, Shut (∀ a w, wpAnyL P md ops Q stops S fuel (listed.setIfInBounds i true) a w → K' a w) → if Region.wanted o (yielded ops a.tmps) = true then Oper.wp P o a w K' Q else K' (a.put o.dst undef) w)
    (hs : AllReadyL P md ops Q stops S fuel listed a w rs) : AllReadyL P md ops Q stops S fuel listed a w (i :: rs) := fun j hj => by
  rcases List.mem_cons.1 hj with rfl | hj
  · exact wpOp_step ho (fun K' hK => h K' (fun a w hW => hK a w ⟨fun h => (by rw [hl] at h; cases h), hW⟩))
  · exact hs j hj
theorem wp_region_late (stops : List Nat) (S : World → Prop) {id : Nat} {a : Act} {w : World} (hm : P.follows .mixedOrders = true)
    (h : wpAnyL P .any ops Q stops S ops.size (Array.replicate ops.size false) a w.drew) : (Code.region id ops true).wp P Q a w :=
  wp_region_any hm (wpAny_of_late _ _ _ _ h)
end
end Go.Proofs.YtnegblckbomgdaaDoor.RegL
end
section
namespace Go.Proofs.YtnegblckbomgdaaDoor.Ht
open Go Go.RowKit Go.Shelf Go.Proofs.YtnegblckbomgdaaDoor.Mem Go.Proofs.YtnegblckbomgdaaDoor.PA Go.Proofs.YtnegblckbomgdaaDoorW.PrintWords Go.Proofs.YtnegblckbomgdaaDoor
def CutI (w : World) (L : List Pr) (m0 m1 : Value) (k : ByteArray) (n kx : Nat) (v11 : Value) (wr : World) : Prop :=
  ∃ (i : Nat) (os ox : Value), i + kx = n ∧ v11 = .int .i64 (i : Int) ∧ CutB w m0 m1 os ox (del (L.take i) k) wr
set_option maxRecDepth 100000 in
set_option maxHeartbeats 4000000 in
theorem refcut_c (K : Nat → Prop) (v : Value) (L : List Pr) (k : ByteArray) (w : World) (h : RefV K w v L) (hl : L.length ≤ 1000000) :
    Calls Tryd.prog 70 #[v, .string k] w (Ret (fun v' w' => RefV (Fresh w) w' v' (del L k)) w) := by
  obtain ⟨s, t, rfl, hs, ht⟩ := h
  obtain ⟨A1, c1, rfl⟩ := SlV.form' hs
  obtain ⟨A2, c2, rfl⟩ := SlV.form' ht
  rw [ksV_length, xsV_length]
  have HS := Lib.hid hs; have HT := Lib.hid ht
  rw [ksV_length] at HS; rw [xsV_length] at HT
  obtain ⟨n, hn⟩ : ∃ n, n = L.length := ⟨_, rfl⟩
  rw [← hn] at HS HT ⊢
  have hnI : (n : Int) ≤ 1000000 := by omega
  have hn6 : n ≤ 1000000 := by omega
  have HN := Lib.hid hn
  have hb0 : CutB w (.slice A1 n c1) (.slice A2 n c2) (.slice none 0 0) (.slice none 0 0) (del (L.take 0) k) (((w.alloc (.cells #[.slice A1 n c1, .slice A2 n c2] RT)).alloc (.cells #[.slice none 0 0, .slice none 0 0] RT)).alloc (.cells #[.slice none 0 0, .slice none 0 0] RT)) :=
    ⟨by have := heap_k2 w (.cells #[.slice A1 n c1, .slice A2 n c2] RT) (.cells #[.slice none 0 0, .slice none 0 0] RT) (.cells #[.slice none 0 0, .slice none 0 0] RT); exact this,
      blk_alloc (heap_k1 w _ _) _, blk_alloc (blk_alloc (blk_new w _) _) _, World.ownsRow_nil _ _ _ _, World.ownsRow_nil _ _ _ _,
      (((Below.refl _ _).alloc (Nat.le_refl _) _).alloc (by simp) _).alloc (by simp; omega) _⟩
  have HB0 := Lib.hid hb0
  clear hs ht hn hl hb0
  go_enter Tryd.func70, Tryd.ntmps70
  obtain ⟨⟨x0, x1⟩, -⟩ := box2 HB0.out.2.2.1
  go_wp2_with fail
  go_loopg [11] n (fun kx v11 wr => Aside (CutI w L (.slice A1 n c1) (.slice A2 n c2) k n kx v11 wr))
  case atStart =>
    show CutI _ _ _ _ _ _ _ _ _
    exact ⟨0, _, _, by omega, rfl, HB0.out⟩
  case round =>
    obtain ⟨i, os, ox, hi, rfl, hC⟩ := hrel.out
    clear hrel
    obtain ⟨Ao, co, rfl⟩ := row_slice hC.2.2.2.1
    obtain ⟨Ax, cx, rfl⟩ := row_slice hC.2.2.2.2.1
    obtain ⟨⟨b0, b1⟩, fb0, fb1⟩ := box2 hC.1
    obtain ⟨⟨m0, m1⟩, -⟩ := box2 hC.2.2.1
    obtain ⟨⟨r0, r1⟩, fr0, fr1⟩ := box2 hC.2.1
    by_cases hlt : i < n
    · have hltI : (i : Int) < (n : Int) := by omega
      obtain ⟨⟨ek, ex⟩, he⟩ : ∃ e, L[i]? = some e := ⟨_, List.getElem?_eq_getElem (by have := HN.out; omega)⟩
      obtain ⟨ad, rfl, hc⟩ := HS.out.addr (by rw [ksV_length, ← HN.out]; omega)
      obtain ⟨ad2, rfl, hc2⟩ := HT.out.addr (by rw [xsV_length, ← HN.out]; omega)
      have d0 := cell_below (hc i (.string ek) (by simp [ksV, he])) hC.2.2.2.2.2
      have d1w := hc2 i (.int .i64 ex) (by simp [xsV, he])
      have d1 := cell_below d1w hC.2.2.2.2.2
      have HC := Lib.hid hC
      clear hc hc2 hC
      obtain ⟨gk, rfl⟩ : ∃ g, gk = g + 1 := ⟨gk - 1, by omega⟩
      by_cases hk : ek = k
      · subst hk
        have hd : del (L.take (i + 1)) ek = del (L.take i) ek := by
          rw [List.take_add_one, he]; simp [del, List.filter_append]
        go_wp2_with fail
        go_roundg gk
        case measure => omega
        case rel =>
          show CutI _ _ _ _ _ _ _ _ _
          exact ⟨i + 1, _, _, by omega, by first | rfl | (push_cast; rfl), by rw [hd]; exact HC.out⟩
      · have hne := str_ne hk
        obtain ⟨M, hM⟩ : ∃ M, M = del (L.take i) k := ⟨_, rfl⟩
        have hd : del (L.take (i + 1)) k = M ++ [(ek, ex)] := by
          rw [List.take_add_one, he, hM]; simp [del, List.filter_append, hk]
        have hMl : M.length ≤ n := by
          rw [hM]
          refine Nat.le_trans (List.length_filter_le _ _) ?_
          rw [List.length_take]; omega
        rw [← hM] at HC b0 b1
        have HMl := Lib.hid hMl
        have hST : St (w.heap.size + 3) wr (.slice Ao (ksV M).length co) (ksV M) (.slice Ax (xsV M).length cx) (xsV M) wr := ⟨HC.out.2.2.2.1, HC.out.2.2.2.2.1, Below.refl _ _, blk_lt HC.out.1⟩
        have HST := Lib.hid hST
        have hi0 : (0 : Int) ≤ (i : Int) := by omega
        clear hST hM he hMl
        go_upto_block 1 with fail
        go_cut [11] from 11 to 35 (fun s11 wx => s11 = .int .i64 (i : Int) ∧ Aside (∃ os' ox', CutB w (.slice (some ad) n c1) (.slice (some ad2) n c2) os' ox' (M ++ [(ek, ex)]) wx))
        case first =>
          go_upto_region 6 with fail
          have hkl : (ksV M).length + 1 ≤ 1000002 := by rw [ksV_length]; have := HMl.out; omega
          have hxl : (xsV M).length + 1 ≤ 1000002 := by rw [xsV_length]; have := HMl.out; omega
          have HSTD := Lib.hid HST.out.drew
          have hblk : (ad2.add i).block < w.heap.size + 3 := by have := block_lt d1w; omega
          have HB0 := Lib.hid b0
          have HB1 := Lib.hid b1
          have HM1 := Lib.hid m1; have HD1 := Lib.hid d1
          refine wp_region_noPanic ?_
          refine RegL.wp_region_late [15, 17] (fun w' => w'.cell? ⟨w.heap.size, 1, none⟩ = some (.slice (some ad2) n c2) ∧ w'.cell? (ad2.add i) = some (.int .i64 ex) ∧ w'.cell? ⟨w.heap.size + 2, 0, none⟩ = some (.slice Ao (ksV M).length co) ∧ w'.cell? ⟨w.heap.size + 2, 1, none⟩ = some (.slice Ax (xsV M).length cx)) (by kernel_rfl) ?_
          have hS0 : (fun (w' : World) => w'.cell? ⟨w.heap.size, 1, none⟩ = some (.slice (some ad2) n c2) ∧ w'.cell? (ad2.add i) = some (.int .i64 ex) ∧ w'.cell? ⟨w.heap.size + 2, 0, none⟩ = some (.slice Ao (ksV M).length co) ∧ w'.cell? ⟨w.heap.size + 2, 1, none⟩ = some (.slice Ax (xsV M).length cx)) wr.drew := ⟨m1, d1, b0, b1⟩
          clear m1 d1 b0 b1 m0 d0 r0 r1 fr0 fr1 fb0 fb1 x0 x1
          show RegL.wpAnyL _ _ _ _ _ _ 18 _ _ _
          refine RegL.wpAnyL_take (i := 0) (oi := ⟨some 19, Op.fieldAddr 35 (Operand.tmp 5) 0, _, _, _, _⟩) (v := ?vv1) rfl (by kernel_rfl) (by kernel_rfl) (by kernel_rfl) (by kernel_rfl) (by kernel_rfl) (by kernel_rfl) (fun _ _ _ h => h) (Or.inl ⟨by rfl, ?hy1⟩) hS0 ?rest1
          case hy1 => ((intro w hSw; (try dsimp only at hSw); go_simp) <;> with_reducible rfl)
          try simp only [Act.put, List.setIfInBounds_toArray, List.set_cons_zero, List.set_cons_succ]
          refine RegL.wpAnyL_take (i := 1) (oi := ⟨some 20, Op.load 32 (Operand.tmp 19), _, _, _, _⟩) (v := ?vv2) rfl (by kernel_rfl) (by kernel_rfl) (by kernel_rfl) (by kernel_rfl) (by kernel_rfl) (by kernel_rfl) (fun _ _ _ h => h) (Or.inl ⟨by rfl, ?hy2⟩) hS0 ?rest2
          case hy2 => ((intro w hSw; (try dsimp only at hSw); go_simp) <;> with_reducible rfl)
          try simp only [Act.put, List.setIfInBounds_toArray, List.set_cons_zero, List.set_cons_succ]
          refine RegL.wpAnyL_take (i := 2) (oi := ⟨some 21, Op.move (Operand.tmp 7), _, _, _, _⟩) (v := ?vv3) rfl (by kernel_rfl) (by kernel_rfl) (by kernel_rfl) (by kernel_rfl) (by kernel_rfl) (by kernel_rfl) (fun _ _ _ h => h) (Or.inl ⟨by rfl, ?hy3⟩) hS0 ?rest3
          case hy3 => ((intro w hSw; (try dsimp only at hSw); go_simp) <;> with_reducible rfl)
          try simp only [Act.put, List.setIfInBounds_toArray, List.set_cons_zero, List.set_cons_succ]
          refine RegL.wpAnyL_take (i := 5) (oi := ⟨some 24, Op.fieldAddr 35 (Operand.tmp 5) 1, _, _, _, _⟩) (v := ?vv4) rfl (by kernel_rfl) (by kernel_rfl) (by kernel_rfl) (by kernel_rfl) (by kernel_rfl) (by kernel_rfl) (fun _ _ _ h => h) (Or.inl ⟨by rfl, ?hy4⟩) hS0 ?rest4
          case hy4 => ((intro w hSw; (try dsimp only at hSw); go_simp) <;> with_reducible rfl)
          try simp only [Act.put, List.setIfInBounds_toArray, List.set_cons_zero, List.set_cons_succ]
          refine RegL.wpAnyL_take (i := 6) (oi := ⟨some 25, Op.load 33 (Operand.tmp 24), _, _, _, _⟩) (v := ?vv5) rfl (by kernel_rfl) (by kernel_rfl) (by kernel_rfl) (by kernel_rfl) (by kernel_rfl) (by kernel_rfl) (fun _ _ _ h => h) (Or.inl ⟨by rfl, ?hy5⟩) hS0 ?rest5
          case hy5 => ((intro w hSw; (try dsimp only at hSw); go_simp) <;> with_reducible rfl)
          try simp only [Act.put, List.setIfInBounds_toArray, List.set_cons_zero, List.set_cons_succ]
          refine RegL.wpAnyL_take (i := 7) (oi := ⟨some 26, Op.fieldAddr 35 (Operand.tmp 2) 1, _, _, _, _⟩) (v := ?vv6) rfl (by kernel_rfl) (by kernel_rfl) (by kernel_rfl) (by kernel_rfl) (by kernel_rfl) (by kernel_rfl) (fun _ _ _ h => h) (Or.inl ⟨by rfl, ?hy6⟩) hS0 ?rest6
          case hy6 => ((intro w hSw; (try dsimp only at hSw); go_simp) <;> with_reducible rfl)
          try simp only [Act.put, List.setIfInBounds_toArray, List.set_cons_zero, List.set_cons_succ]
          refine RegL.wpAnyL_take (i := 8) (oi := ⟨some 27, Op.load 33 (Operand.tmp 26), _, _, _, _⟩) (v := ?vv7) rfl (by kernel_rfl) (by kernel_rfl) (by kernel_rfl) (by kernel_rfl) (by kernel_rfl) (by kernel_rfl) (fun _ _ _ h => h) (Or.inl ⟨by rfl, ?hy7⟩) hS0 ?rest7
          case hy7 => ((intro w hSw; (try dsimp only at hSw); go_simp) <;> with_reducible rfl)
          try simp only [Act.put, List.setIfInBounds_toArray, List.set_cons_zero, List.set_cons_succ]
          refine RegL.wpAnyL_take (i := 9) (oi := ⟨some 28, Op.move (Operand.tmp 6), _, _, _, _⟩) (v := ?vv8) rfl (by kernel_rfl) (by kernel_rfl) (by kernel_rfl) (by kernel_rfl) (by kernel_rfl) (by kernel_rfl) (fun _ _ _ h => h) (Or.inl ⟨by rfl, ?hy8⟩) hS0 ?rest8
          case hy8 => ((intro w hSw; (try dsimp only at hSw); go_simp) <;> with_reducible rfl)
          try simp only [Act.put, List.setIfInBounds_toArray, List.set_cons_zero, List.set_cons_succ]
          refine RegL.wpAnyL_take (i := 10) (oi := ⟨some 29, Op.indexAddr 33 (Operand.tmp 27) (Operand.tmp 28), _, _, _, _⟩) (v := ?vv9) rfl (by kernel_rfl) (by kernel_rfl) (by kernel_rfl) (by kernel_rfl) (by kernel_rfl) (by kernel_rfl) (fun _ _ _ h => h) (Or.inl ⟨by rfl, ?hy9⟩) hS0 ?rest9
          case hy9 => ((intro w hSw; (try dsimp only at hSw); go_simp) <;> with_reducible rfl)
          try simp only [Act.put, List.setIfInBounds_toArray, List.set_cons_zero, List.set_cons_succ]
          refine RegL.wpAnyL_take (i := 11) (oi := ⟨some 30, Op.load 3 (Operand.tmp 29), _, _, _, _⟩) (v := ?vv10) rfl (by kernel_rfl) (by kernel_rfl) (by kernel_rfl) (by kernel_rfl) (by kernel_rfl) (by kernel_rfl) (fun _ _ _ h => h) (Or.inl ⟨by rfl, ?hy10⟩) hS0 ?rest10
          case hy10 => ((intro w hSw; (try dsimp only at hSw); go_simp) <;> with_reducible rfl)
          try simp only [Act.put, List.setIfInBounds_toArray, List.set_cons_zero, List.set_cons_succ]
          refine RegL.wpAnyL_ready (rs := [3, 12]) (by kernel_rfl) (by simp) ?_
          refine RegL.AllReadyL.calm (o := ⟨some 22, Op.buildSlice 32 1 #[(0, Operand.tmp 21)], _, _, _, _⟩) rfl (fun K hK => ?_) ?_
          · go_simp
            refine hK.out _ _ (⟨cell_below hS0.1 ((Below.refl _ _).alloc (Nat.le_refl _) _), cell_below hS0.2.1 ((Below.refl _ _).alloc (Nat.le_refl _) _), cell_below hS0.2.2.1 ((Below.refl _ _).alloc (Nat.le_refl _) _), cell_below hS0.2.2.2 ((Below.refl _ _).alloc (Nat.le_refl _) _)⟩) (fun hS0x => ?_)
            clear hK K
            try simp only [Act.put, List.setIfInBounds_toArray, List.set_cons_zero, List.set_cons_succ]
            refine RegL.wpAnyL_ready (rs := [4, 12]) (by kernel_rfl) (by simp) ?_
            refine RegL.AllReadyL.calm (o := ⟨some 23, Op.call { callee := Callee.builtin Builtin.append, args := #[Operand.tmp 20, Operand.tmp 22], argTypes := #[32, 32] }, _, _, _, _⟩) rfl (fun K hK => ?_) ?_
            · refine step_append_slv (o := ⟨some 23, _, _, _, _, _⟩) ?_ (.tmp 20) (.tmp 22) 32 TS (.string ⟨#[]⟩) 16 ?_ Tryd.underlying32 info_str ?_ ?_ (w.heap.size + 3) (.slice Ao (ksV M).length co) _ (ksV M) [.string ek] (some ⟨wr.heap.size, 0, none⟩) 1 1 (fun _ => True) ?_ ?_ (HSTD.out.alloc _).1 (Bl.slv (Bl.new TS (.string ek) _) rfl) (HSTD.out.alloc _).2.2.2 ?_ ?_
              (rfl); (rfl); (rfl); (decide); (rfl); (rfl); (simp only [List.length_cons, List.length_nil]; omega)
              intro v1 w1 hO1 hg1 _
              have hO1 : w1.ownsRow (w.heap.size + 3) TS 1 v1 ((ksV M).length + 1) (ksV M ++ [.string ek]) := hO1
              obtain ⟨A5, c5, rfl⟩ := row_slice hO1
              have HS1 := Lib.hid (St.keys (HSTD.out.alloc _) hO1 rfl hg1)
              clear hO1 hg1
              refine hK.out _ _ (⟨St.cell HS1.out HM1.out (show w.heap.size < w.heap.size + 3 by omega), St.cell HS1.out HD1.out hblk, St.cell HS1.out HB0.out (show w.heap.size + 2 < w.heap.size + 3 by omega), St.cell HS1.out HB1.out (show w.heap.size + 2 < w.heap.size + 3 by omega)⟩) (fun hS0xx => ?_)
              clear hK K
              try simp only [Act.put, List.setIfInBounds_toArray, List.set_cons_zero, List.set_cons_succ]
              refine RegL.wpAnyL_take (i := 14) (oi := ⟨some 33, Op.fieldAddr 35 (Operand.tmp 5) 0, _, _, _, _⟩) (v := ?vv11) rfl (by kernel_rfl) (by kernel_rfl) (by kernel_rfl) (by kernel_rfl) (by kernel_rfl) (by kernel_rfl) (fun _ _ _ h => h) (Or.inl ⟨by rfl, ?hy11⟩) hS0xx ?rest11
              case hy11 => ((intro w hSw; (try dsimp only at hSw); go_simp) <;> with_reducible rfl)
              try simp only [Act.put, List.setIfInBounds_toArray, List.set_cons_zero, List.set_cons_succ]
              refine RegL.wpAnyL_ready (rs := [12]) (by kernel_rfl) (by simp) ?_
              refine RegL.AllReadyL.calm (o := ⟨some 31, Op.buildSlice 33 1 #[(0, Operand.tmp 30)], _, _, _, _⟩) rfl (fun K hK => ?_) RegL.AllReadyL.nil
              go_simp
              refine hK.out _ _ (⟨cell_below hS0xx.1 ((Below.refl _ _).alloc (Nat.le_refl _) _), cell_below hS0xx.2.1 ((Below.refl _ _).alloc (Nat.le_refl _) _), cell_below hS0xx.2.2.1 ((Below.refl _ _).alloc (Nat.le_refl _) _), cell_below hS0xx.2.2.2 ((Below.refl _ _).alloc (Nat.le_refl _) _)⟩) (fun hS0xxx => ?_)
              clear hK K
              try simp only [Act.put, List.setIfInBounds_toArray, List.set_cons_zero, List.set_cons_succ]
              refine RegL.wpAnyL_ready (rs := [13]) (by kernel_rfl) (by simp) ?_
              refine RegL.AllReadyL.calm (o := ⟨some 32, Op.call { callee := Callee.builtin Builtin.append, args := #[Operand.tmp 25, Operand.tmp 31], argTypes := #[33, 33] }, _, _, _, _⟩) rfl (fun K hK => ?_) RegL.AllReadyL.nil
              refine step_append_slv (o := ⟨some 32, _, _, _, _, _⟩) ?_ (.tmp 25) (.tmp 31) 33 TI (.int .i64 0) 8 ?_ Tryd.underlying33 info_int ?_ ?_ (w.heap.size + 3) (.slice Ax (xsV M).length cx) _ (xsV M) [.int .i64 ex] (some ⟨w1.heap.size, 0, none⟩) 1 1 (fun _ => True) ?_ ?_ (HS1.out.alloc _).2.1 (Bl.slv (Bl.new TI (.int .i64 ex) _) rfl) (HS1.out.alloc _).2.2.2 ?_ ?_
              (rfl); (rfl); (rfl); (decide); (rfl); (rfl); (simp only [List.length_cons, List.length_nil]; omega)
              intro v2 w2 hO2 hg2 _
              have hO2 : w2.ownsRow (w.heap.size + 3) TI 1 v2 ((xsV M).length + 1) (xsV M ++ [.int .i64 ex]) := hO2
              obtain ⟨A6, c6, rfl⟩ := row_slice hO2
              have HS2 := Lib.hid (St.things (HS1.out.alloc _) hO2 rfl hg2)
              have hbx := (HS2.out.2.2.1.block (w.heap.size + 2) (by omega)).trans HC.out.1
              have HP := Lib.hid (cut_put1 HC.out HS2.out)
              obtain ⟨⟨e0, e1⟩, f0, f1⟩ := box2 hbx
              clear hO2 hg2 hbx
              refine hK.out _ _ (⟨St.cell HS2.out HM1.out (show w.heap.size < w.heap.size + 3 by omega), St.cell HS2.out HD1.out hblk, St.cell HS2.out HB0.out (show w.heap.size + 2 < w.heap.size + 3 by omega), St.cell HS2.out HB1.out (show w.heap.size + 2 < w.heap.size + 3 by omega)⟩) (fun hS0xxxx => ?_)
              clear hK K
              try simp only [Act.put, List.setIfInBounds_toArray, List.set_cons_zero, List.set_cons_succ]
              refine RegL.wpAnyL_ready (rs := [15]) (by kernel_rfl) (by simp) ?_
              refine RegL.AllReadyL.late (o := ⟨none, Op.store 32 (Operand.tmp 33) (Operand.tmp 23), _, _, _, _⟩) rfl (by kernel_rfl) (fun K hK => ?_) RegL.AllReadyL.nil
              go_simp
              refine hK.out _ _ ?_
              clear hK K
              try simp only [Act.put, List.setIfInBounds_toArray, List.set_cons_zero, List.set_cons_succ]
              refine RegL.wpAnyL_ready (rs := [16]) (by kernel_rfl) (by simp) ?_
              refine RegL.AllReadyL.late (o := ⟨some 34, Op.fieldAddr 35 (Operand.tmp 5) 1, _, _, _, _⟩) rfl (by kernel_rfl) (fun K hK => ?_) RegL.AllReadyL.nil
              go_simp
              refine hK.out _ _ ?_
              clear hK K
              try simp only [Act.put, List.setIfInBounds_toArray, List.set_cons_zero, List.set_cons_succ]
              refine RegL.wpAnyL_ready (rs := [17]) (by kernel_rfl) (by simp) ?_
              refine RegL.AllReadyL.late (o := ⟨none, Op.store 33 (Operand.tmp 34) (Operand.tmp 32), _, _, _, _⟩) rfl (by kernel_rfl) (fun K hK => ?_) RegL.AllReadyL.nil
              go_simp
              refine hK.out _ _ ?_
              clear hK K
              try simp only [Act.put, List.setIfInBounds_toArray, List.set_cons_zero, List.set_cons_succ]
              refine RegL.wpAnyL_done (by kernel_rfl) ?_ _
              exact NoPanic.normal (by
                (go_wp2_with fail)
                go_meet
                exact ⟨rfl, Lib.hid ⟨_, _, HP.out⟩⟩)
            refine RegL.AllReadyL.calm (o := ⟨some 31, Op.buildSlice 33 1 #[(0, Operand.tmp 30)], _, _, _, _⟩) rfl (fun K hK => ?_) RegL.AllReadyL.nil
            go_simp
            refine hK.out _ _ (⟨cell_below hS0x.1 ((Below.refl _ _).alloc (Nat.le_refl _) _), cell_below hS0x.2.1 ((Below.refl _ _).alloc (Nat.le_refl _) _), cell_below hS0x.2.2.1 ((Below.refl _ _).alloc (Nat.le_refl _) _), cell_below hS0x.2.2.2 ((Below.refl _ _).alloc (Nat.le_refl _) _)⟩) (fun hS0xx => ?_)
            clear hK K
            try simp only [Act.put, List.setIfInBounds_toArray, List.set_cons_zero, List.set_cons_succ]
            refine RegL.wpAnyL_ready (rs := [4]) (by kernel_rfl) (by simp) ?_
            refine RegL.AllReadyL.calm (o := ⟨some 23, Op.call { callee := Callee.builtin Builtin.append, args := #[Operand.tmp 20, Operand.tmp 22], argTypes := #[32, 32] }, _, _, _, _⟩) rfl (fun K hK => ?_) RegL.AllReadyL.nil
            refine step_append_slv (o := ⟨some 23, _, _, _, _, _⟩) ?_ (.tmp 20) (.tmp 22) 32 TS (.string ⟨#[]⟩) 16 ?_ Tryd.underlying32 info_str ?_ ?_ (w.heap.size + 3) (.slice Ao (ksV M).length co) _ (ksV M) [.string ek] (some ⟨wr.heap.size, 0, none⟩) 1 1 (fun _ => True) ?_ ?_ ((HSTD.out.alloc _).alloc _).1 (Bl.slv ((Bl.new TS (.string ek) _).alloc _) rfl) ((HSTD.out.alloc _).alloc _).2.2.2 ?_ ?_
            (rfl); (rfl); (rfl); (decide); (rfl); (rfl); (simp only [List.length_cons, List.length_nil]; omega)
            intro v1 w1 hO1 hg1 _
            have hO1 : w1.ownsRow (w.heap.size + 3) TS 1 v1 ((ksV M).length + 1) (ksV M ++ [.string ek]) := hO1
            obtain ⟨A5, c5, rfl⟩ := row_slice hO1
            have HS1 := Lib.hid (St.keys ((HSTD.out.alloc _).alloc _) hO1 rfl hg1)
            have HBX := Lib.hid (Bl.grown (Bl.new1 TI (.int .i64 ex) _ _) ((HSTD.out.alloc _).alloc _).1 (by decide) hg1)
            clear hO1 hg1
            refine hK.out _ _ (⟨St.cell HS1.out HM1.out (show w.heap.size < w.heap.size + 3 by omega), St.cell HS1.out HD1.out hblk, St.cell HS1.out HB0.out (show w.heap.size + 2 < w.heap.size + 3 by omega), St.cell HS1.out HB1.out (show w.heap.size + 2 < w.heap.size + 3 by omega)⟩) (fun hS0xxx => ?_)
            clear hK K
            try simp only [Act.put, List.setIfInBounds_toArray, List.set_cons_zero, List.set_cons_succ]
            refine RegL.wpAnyL_take (i := 14) (oi := ⟨some 33, Op.fieldAddr 35 (Operand.tmp 5) 0, _, _, _, _⟩) (v := ?vv12) rfl (by kernel_rfl) (by kernel_rfl) (by kernel_rfl) (by kernel_rfl) (by kernel_rfl) (by kernel_rfl) (fun _ _ _ h => h) (Or.inl ⟨by rfl, ?hy12⟩) hS0xxx ?rest12
            case hy12 => ((intro w hSw; (try dsimp only at hSw); go_simp) <;> with_reducible rfl)
            try simp only [Act.put, List.setIfInBounds_toArray, List.set_cons_zero, List.set_cons_succ]
            refine RegL.wpAnyL_ready (rs := [13]) (by kernel_rfl) (by simp) ?_
            refine RegL.AllReadyL.calm (o := ⟨some 32, Op.call { callee := Callee.builtin Builtin.append, args := #[Operand.tmp 25, Operand.tmp 31], argTypes := #[33, 33] }, _, _, _, _⟩) rfl (fun K hK => ?_) RegL.AllReadyL.nil
            refine step_append_slv (o := ⟨some 32, _, _, _, _, _⟩) ?_ (.tmp 25) (.tmp 31) 33 TI (.int .i64 0) 8 ?_ Tryd.underlying33 info_int ?_ ?_ (w.heap.size + 3) (.slice Ax (xsV M).length cx) _ (xsV M) [.int .i64 ex] (some ⟨wr.heap.size + 1, 0, none⟩) 1 1 (fun _ => True) ?_ ?_ (HS1.out).2.1 (Bl.slv (HBX.out) rfl) (HS1.out).2.2.2 ?_ ?_
            (rfl); (rfl); (rfl); (decide); (rfl); (rfl); (simp only [List.length_cons, List.length_nil]; omega)
            intro v2 w2 hO2 hg2 _
            have hO2 : w2.ownsRow (w.heap.size + 3) TI 1 v2 ((xsV M).length + 1) (xsV M ++ [.int .i64 ex]) := hO2
            obtain ⟨A6, c6, rfl⟩ := row_slice hO2
            have HS2 := Lib.hid (St.things (HS1.out) hO2 rfl hg2)
            have hbx := (HS2.out.2.2.1.block (w.heap.size + 2) (by omega)).trans HC.out.1
            have HP := Lib.hid (cut_put1 HC.out HS2.out)
            obtain ⟨⟨e0, e1⟩, f0, f1⟩ := box2 hbx
            clear hO2 hg2 hbx
            refine hK.out _ _ (⟨St.cell HS2.out HM1.out (show w.heap.size < w.heap.size + 3 by omega), St.cell HS2.out HD1.out hblk, St.cell HS2.out HB0.out (show w.heap.size + 2 < w.heap.size + 3 by omega), St.cell HS2.out HB1.out (show w.heap.size + 2 < w.heap.size + 3 by omega)⟩) (fun hS0xxxx => ?_)
            clear hK K
            try simp only [Act.put, List.setIfInBounds_toArray, List.set_cons_zero, List.set_cons_succ]
            refine RegL.wpAnyL_ready (rs := [15]) (by kernel_rfl) (by simp) ?_
            refine RegL.AllReadyL.late (o := ⟨none, Op.store 32 (Operand.tmp 33) (Operand.tmp 23), _, _, _, _⟩) rfl (by kernel_rfl) (fun K hK => ?_) RegL.AllReadyL.nil
            go_simp
            refine hK.out _ _ ?_
            clear hK K
            try simp only [Act.put, List.setIfInBounds_toArray, List.set_cons_zero, List.set_cons_succ]
            refine RegL.wpAnyL_ready (rs := [16]) (by kernel_rfl) (by simp) ?_
            refine RegL.AllReadyL.late (o := ⟨some 34, Op.fieldAddr 35 (Operand.tmp 5) 1, _, _, _, _⟩) rfl (by kernel_rfl) (fun K hK => ?_) RegL.AllReadyL.nil
            go_simp
            refine hK.out _ _ ?_
            clear hK K
            try simp only [Act.put, List.setIfInBounds_toArray, List.set_cons_zero, List.set_cons_succ]
            refine RegL.wpAnyL_ready (rs := [17]) (by kernel_rfl) (by simp) ?_
            refine RegL.AllReadyL.late (o := ⟨none, Op.store 33 (Operand.tmp 34) (Operand.tmp 32), _, _, _, _⟩) rfl (by kernel_rfl) (fun K hK => ?_) RegL.AllReadyL.nil
            go_simp
            refine hK.out _ _ ?_
            clear hK K
            try simp only [Act.put, List.setIfInBounds_toArray, List.set_cons_zero, List.set_cons_succ]
            refine RegL.wpAnyL_done (by kernel_rfl) ?_ _
            exact NoPanic.normal (by
              (go_wp2_with fail)
              go_meet
              exact ⟨rfl, Lib.hid ⟨_, _, HP.out⟩⟩)
          refine RegL.AllReadyL.calm (o := ⟨some 31, Op.buildSlice 33 1 #[(0, Operand.tmp 30)], _, _, _, _⟩) rfl (fun K hK => ?_) RegL.AllReadyL.nil
          go_simp
          refine hK.out _ _ (⟨cell_below hS0.1 ((Below.refl _ _).alloc (Nat.le_refl _) _), cell_below hS0.2.1 ((Below.refl _ _).alloc (Nat.le_refl _) _), cell_below hS0.2.2.1 ((Below.refl _ _).alloc (Nat.le_refl _) _), cell_below hS0.2.2.2 ((Below.refl _ _).alloc (Nat.le_refl _) _)⟩) (fun hS0x => ?_)
          clear hK K
          try simp only [Act.put, List.setIfInBounds_toArray, List.set_cons_zero, List.set_cons_succ]
          refine RegL.wpAnyL_ready (rs := [3]) (by kernel_rfl) (by simp) ?_
          refine RegL.AllReadyL.calm (o := ⟨some 22, Op.buildSlice 32 1 #[(0, Operand.tmp 21)], _, _, _, _⟩) rfl (fun K hK => ?_) RegL.AllReadyL.nil
          go_simp
          refine hK.out _ _ (⟨cell_below hS0x.1 ((Below.refl _ _).alloc (Nat.le_refl _) _), cell_below hS0x.2.1 ((Below.refl _ _).alloc (Nat.le_refl _) _), cell_below hS0x.2.2.1 ((Below.refl _ _).alloc (Nat.le_refl _) _), cell_below hS0x.2.2.2 ((Below.refl _ _).alloc (Nat.le_refl _) _)⟩) (fun hS0xx => ?_)
          clear hK K
          try simp only [Act.put, List.setIfInBounds_toArray, List.set_cons_zero, List.set_cons_succ]
          refine RegL.wpAnyL_ready (rs := [4]) (by kernel_rfl) (by simp) ?_
          refine RegL.AllReadyL.calm (o := ⟨some 23, Op.call { callee := Callee.builtin Builtin.append, args := #[Operand.tmp 20, Operand.tmp 22], argTypes := #[32, 32] }, _, _, _, _⟩) rfl (fun K hK => ?_) RegL.AllReadyL.nil
          refine step_append_slv (o := ⟨some 23, _, _, _, _, _⟩) ?_ (.tmp 20) (.tmp 22) 32 TS (.string ⟨#[]⟩) 16 ?_ Tryd.underlying32 info_str ?_ ?_ (w.heap.size + 3) (.slice Ao (ksV M).length co) _ (ksV M) [.string ek] (some ⟨wr.heap.size + 1, 0, none⟩) 1 1 (fun _ => True) ?_ ?_ ((HSTD.out.alloc _).alloc _).1 (Bl.slv (Bl.new1 TS (.string ek) _ _) rfl) ((HSTD.out.alloc _).alloc _).2.2.2 ?_ ?_
          (rfl); (rfl); (rfl); (decide); (rfl); (rfl); (simp only [List.length_cons, List.length_nil]; omega)
          intro v1 w1 hO1 hg1 _
          have hO1 : w1.ownsRow (w.heap.size + 3) TS 1 v1 ((ksV M).length + 1) (ksV M ++ [.string ek]) := hO1
          obtain ⟨A5, c5, rfl⟩ := row_slice hO1
          have HS1 := Lib.hid (St.keys ((HSTD.out.alloc _).alloc _) hO1 rfl hg1)
          have HBX := Lib.hid (Bl.grown ((Bl.new TI (.int .i64 ex) _).alloc _) ((HSTD.out.alloc _).alloc _).1 (by decide) hg1)
          clear hO1 hg1
          refine hK.out _ _ (⟨St.cell HS1.out HM1.out (show w.heap.size < w.heap.size + 3 by omega), St.cell HS1.out HD1.out hblk, St.cell HS1.out HB0.out (show w.heap.size + 2 < w.heap.size + 3 by omega), St.cell HS1.out HB1.out (show w.heap.size + 2 < w.heap.size + 3 by omega)⟩) (fun hS0xxx => ?_)
          clear hK K
          try simp only [Act.put, List.setIfInBounds_toArray, List.set_cons_zero, List.set_cons_succ]
          refine RegL.wpAnyL_take (i := 14) (oi := ⟨some 33, Op.fieldAddr 35 (Operand.tmp 5) 0, _, _, _, _⟩) (v := ?vv13) rfl (by kernel_rfl) (by kernel_rfl) (by kernel_rfl) (by kernel_rfl) (by kernel_rfl) (by kernel_rfl) (fun _ _ _ h => h) (Or.inl ⟨by rfl, ?hy13⟩) hS0xxx ?rest13
          case hy13 => ((intro w hSw; (try dsimp only at hSw); go_simp) <;> with_reducible rfl)
          try simp only [Act.put, List.setIfInBounds_toArray, List.set_cons_zero, List.set_cons_succ]
          refine RegL.wpAnyL_ready (rs := [13]) (by kernel_rfl) (by simp) ?_
          refine RegL.AllReadyL.calm (o := ⟨some 32, Op.call { callee := Callee.builtin Builtin.append, args := #[Operand.tmp 25, Operand.tmp 31], argTypes := #[33, 33] }, _, _, _, _⟩) rfl (fun K hK => ?_) RegL.AllReadyL.nil
          refine step_append_slv (o := ⟨some 32, _, _, _, _, _⟩) ?_ (.tmp 25) (.tmp 31) 33 TI (.int .i64 0) 8 ?_ Tryd.underlying33 info_int ?_ ?_ (w.heap.size + 3) (.slice Ax (xsV M).length cx) _ (xsV M) [.int .i64 ex] (some ⟨wr.heap.size, 0, none⟩) 1 1 (fun _ => True) ?_ ?_ (HS1.out).2.1 (Bl.slv (HBX.out) rfl) (HS1.out).2.2.2 ?_ ?_
          (rfl); (rfl); (rfl); (decide); (rfl); (rfl); (simp only [List.length_cons, List.length_nil]; omega)
          intro v2 w2 hO2 hg2 _
          have hO2 : w2.ownsRow (w.heap.size + 3) TI 1 v2 ((xsV M).length + 1) (xsV M ++ [.int .i64 ex]) := hO2
          obtain ⟨A6, c6, rfl⟩ := row_slice hO2
          have HS2 := Lib.hid (St.things (HS1.out) hO2 rfl hg2)
          have hbx := (HS2.out.2.2.1.block (w.heap.size + 2) (by omega)).trans HC.out.1
          have HP := Lib.hid (cut_put1 HC.out HS2.out)
          obtain ⟨⟨e0, e1⟩, f0, f1⟩ := box2 hbx
          clear hO2 hg2 hbx
          refine hK.out _ _ (⟨St.cell HS2.out HM1.out (show w.heap.size < w.heap.size + 3 by omega), St.cell HS2.out HD1.out hblk, St.cell HS2.out HB0.out (show w.heap.size + 2 < w.heap.size + 3 by omega), St.cell HS2.out HB1.out (show w.heap.size + 2 < w.heap.size + 3 by omega)⟩) (fun hS0xxxx => ?_)
          clear hK K
          try simp only [Act.put, List.setIfInBounds_toArray, List.set_cons_zero, List.set_cons_succ]
          refine RegL.wpAnyL_ready (rs := [15]) (by kernel_rfl) (by simp) ?_
          refine RegL.AllReadyL.late (o := ⟨none, Op.store 32 (Operand.tmp 33) (Operand.tmp 23), _, _, _, _⟩) rfl (by kernel_rfl) (fun K hK => ?_) RegL.AllReadyL.nil
          go_simp
          refine hK.out _ _ ?_
          clear hK K
          try simp only [Act.put, List.setIfInBounds_toArray, List.set_cons_zero, List.set_cons_succ]
          refine RegL.wpAnyL_ready (rs := [16]) (by kernel_rfl) (by simp) ?_
          refine RegL.AllReadyL.late (o := ⟨some 34, Op.fieldAddr 35 (Operand.tmp 5) 1, _, _, _, _⟩) rfl (by kernel_rfl) (fun K hK => ?_) RegL.AllReadyL.nil
          go_simp
          refine hK.out _ _ ?_
          clear hK K
          try simp only [Act.put, List.setIfInBounds_toArray, List.set_cons_zero, List.set_cons_succ]
          refine RegL.wpAnyL_ready (rs := [17]) (by kernel_rfl) (by simp) ?_
          refine RegL.AllReadyL.late (o := ⟨none, Op.store 33 (Operand.tmp 34) (Operand.tmp 32), _, _, _, _⟩) rfl (by kernel_rfl) (fun K hK => ?_) RegL.AllReadyL.nil
          go_simp
          refine hK.out _ _ ?_
          clear hK K
          try simp only [Act.put, List.setIfInBounds_toArray, List.set_cons_zero, List.set_cons_succ]
          refine RegL.wpAnyL_done (by kernel_rfl) ?_ _
          exact NoPanic.normal (by
            (go_wp2_with fail)
            go_meet
            exact ⟨rfl, Lib.hid ⟨_, _, HP.out⟩⟩)
        case rest =>
          obtain ⟨rfl, hC2⟩ := hcut
          obtain ⟨os2, ox2, hC2⟩ := hC2.out
          have HC2 := Lib.hid hC2
          clear hC2
          go_wp2_with fail
          go_roundg gk
          case measure => omega
          case rel =>
            show CutI _ _ _ _ _ _ _ _ _
            exact ⟨i + 1, os2, ox2, by omega, by first | rfl | (push_cast; rfl), by rw [hd]; exact HC2.out⟩
    · obtain rfl : i = n := by omega
      have hd : del (L.take i) k = del L k := by rw [List.take_of_length_le (by rw [HN.out]; exact Nat.le_refl _)]
      rw [hd] at hC
      have HC := Lib.hid hC
      clear hC
      go_wp2_with fail
      have hk : ∀ (u u' : Value) {e : TypeId} {v : Value} {xs : List Value}, wr.ownsRow (w.heap.size + 3) e 1 v xs.length xs → (∀ x ∈ xs, x.oneCell' = true) → SlV (Fresh w) ((wr.setCell ⟨w.heap.size + 1, 0, none⟩ u).setCell ⟨w.heap.size + 1, 1, none⟩ u') v xs := fun u u' {e v xs} ho h1 =>
        ((SlV.of_row ho h1).keep fun b hb _ => by
          rw [Below.heap_setCell _ _ _ _ (show b ≠ w.heap.size + 1 by omega), Below.heap_setCell _ _ _ _ (show b ≠ w.heap.size + 1 by omega)]).mono fun b hb => Nat.le_trans (Nat.le_add_right _ 3) hb
      refine bodyPost_ret (results_c1 rfl _ _ (w.heap.size + 1) RT #[.slice Ao (ksV (del L k)).length co, .slice Ax (xsV (del L k)).length cx] (0, 0) _ rfl (put2 HC.out.2.1) Tryd.underlying35 rfl (by kernel_rfl)) rfl ?_
      exact ⟨_, rfl, ⟨_, _, rfl, hk _ _ HC.out.2.2.2.1 (ksV_one _), hk _ _ HC.out.2.2.2.2.1 (xsV_one _)⟩, (HC.out.2.2.2.2.2.setCell (p := ⟨w.heap.size + 1, 0, none⟩) (Nat.le_succ _) _).setCell (p := ⟨w.heap.size + 1, 1, none⟩) (Nat.le_succ _) _⟩
end Go.Proofs.YtnegblckbomgdaaDoor.Ht
end
section
namespace Go.Proofs.YtnegblckbomgdaaDoor.Ht
open Go Go.RowKit Go.Shelf Go.Proofs.YtnegblckbomgdaaDoor.Mem Go.Proofs.YtnegblckbomgdaaDoor.PA Go.Proofs.YtnegblckbomgdaaDoorW.PrintWords
theorem slice_to (T E : TypeId) (hu : Tryd.prog.underlying T = some (.slice E)) (hs : (Tryd.prog.info? E).map (·.size) = some 1) (a : Option Addr) (len cap l : Nat) (hl : l ≤ len) (hc : len ≤ cap) (W : World) :
    (Instr.slice T (.slice a len cap) none (some (.int .i64 (l : Int))) none).run Tryd.prog W = .ok (.slice a l cap) W := by
  have he : Tryd.prog.elem T = E := by simp [Program.elem, hu]
  have h0 : (0 : Int) ≤ (l : Int) := by omega
  have h1 : (l : Int) ≤ (cap : Int) := by omega
  have h2 : l ≤ cap := by omega
  cases hq : Tryd.prog.info? E with
  | none => simp [hq] at hs
  | some i =>
    have hi : i.size = 1 := by simpa [hq] using hs
    rw [run_slice_any W T _ len cap (by rw [he]; exact hu), he]
    simp [Instr.sliceBounds, go_sem, sizeOf, typeInfo, hq, hi, sliced, h0, h1, h2, hl, hc]
theorem slv_from {K : Nat → Prop} {w : World} {A : Option Addr} {n c : Nat} {xs : List Value} (h : SlV K w (.slice A n c) xs) (i : Nat) (hi : i ≤ xs.length) (d : Option Addr) (hd : i < c → d = A.map (·.add (i * 1))) : SlV K w (.slice d (n - i) (c - i)) (xs.drop i) := by
  have hn := h.len
  have hcp := SlV.caps h
  rcases Nat.lt_or_ge i xs.length with hlt | hge
  · obtain ⟨ad, rfl, -⟩ := h.addr (by omega)
    rw [hd (by omega), Nat.mul_one]
    exact h.drop i hi
  · have e : xs.drop i = [] := List.drop_eq_nil_of_le hge
    rw [e, show n - i = 0 by omega]
    exact ⟨d, c - i, rfl, Nat.zero_le _, by omega, fun h => absurd h (by simp), fun u hu => by cases hu⟩
theorem row_slice' {base size n m : Nat} {e : TypeId} {v : Value} {xs : List Value} {W : World} (h : W.ownsRow base e size v n xs) (hm : n = m) : ∃ A c, v = .slice A m c := by
  subst hm; exact row_slice h
theorem St.keys' {base : Nat} {w0 W W' : World} {os ox os' : Value} {xs ys u xs' : List Value} {n : Nat} (h : St base w0 os xs ox ys W) (ho : W'.ownsRow base TS 1 os' n (xs ++ u)) (hn : n = xs.length + u.length) (hg : W.grownBy W' os.ownBlock) (he : xs ++ u = xs') : St base w0 os' xs' ox ys W' := by
  subst he; exact h.keys ho hn hg
theorem St.things' {base : Nat} {w0 W W' : World} {os ox ox' : Value} {xs ys u ys' : List Value} {n : Nat} (h : St base w0 os xs ox ys W) (ho : W'.ownsRow base TI 1 ox' n (ys ++ u)) (hn : n = ys.length + u.length) (hg : W.grownBy W' ox.ownBlock) (he : ys ++ u = ys') : St base w0 os xs ox' ys' W' := by
  subst he; exact h.things ho hn hg
def SetB (w0 : World) (g : Nat) (os ox : Value) (M : List Pr) (wr : World) : Prop :=
  wr.heap[g]? = some (.cells #[os, ox] RT (0, 0)) ∧ wr.ownsRow (g + 1) TS 1 os (ksV M).length (ksV M) ∧ wr.ownsRow (g + 1) TI 1 ox (xsV M).length (xsV M) ∧ Below g w0 wr
theorem SetB.st {w0 wr : World} {g : Nat} {os ox : Value} {M : List Pr} (h : SetB w0 g os ox M wr) : St (g + 1) wr os (ksV M) ox (xsV M) wr := ⟨h.2.1, h.2.2.1, Below.refl _ _, blk_lt h.1⟩
theorem set_put {w0 wr wF : World} {g : Nat} {os ox os' ox' : Value} {M M' : List Pr} (h : SetB w0 g os ox M wr) (hs : St (g + 1) wr os' (ksV M') ox' (xsV M') wF) :
    SetB w0 g os' ox' M' ((wF.setCell ⟨g, 0, none⟩ os').setCell ⟨g, 1, none⟩ ox') := by
  obtain ⟨h1, h4, h5, h6⟩ := h
  obtain ⟨k1, k2, k3, k4⟩ := hs
  have hk : ∀ {v : Value} {e : TypeId} {n : Nat} {xs : List Value}, wF.ownsRow (g + 1) e 1 v n xs → ((wF.setCell ⟨g, 0, none⟩ os').setCell ⟨g, 1, none⟩ ox').ownsRow (g + 1) e 1 v n xs := fun ho =>
    own_move ho fun k hk => by
      have hb := own_base ho k hk
      rw [Below.heap_setCell _ _ _ _ (show k ≠ g by omega), Below.heap_setCell _ _ _ _ (show k ≠ g by omega)]
  exact ⟨put2 ((k3.block _ (by omega)).trans h1), hk k1, hk k2, ((h6.trans (k3.mono (by omega))).setCell (p := ⟨g, 0, none⟩) (Nat.le_refl _) _).setCell (p := ⟨g, 1, none⟩) (Nat.le_refl _) _⟩
theorem ksV_append (M N : List Pr) : ksV (M ++ N) = ksV M ++ ksV N := by simp [ksV]
theorem xsV_append (M N : List Pr) : xsV (M ++ N) = xsV M ++ xsV N := by simp [xsV]
theorem ksV_take (M : List Pr) (i : Nat) : ksV (M.take i) = (ksV M).take i := by simp [ksV]
theorem xsV_take (M : List Pr) (i : Nat) : xsV (M.take i) = (xsV M).take i := by simp [xsV]
theorem ksV_drop (M : List Pr) (i : Nat) : ksV (M.drop i) = (ksV M).drop i := by simp [ksV]
theorem xsV_drop (M : List Pr) (i : Nat) : xsV (M.drop i) = (xsV M).drop i := by simp [xsV]
theorem ins_del {L : List Pr} (h : Srt L) (k : ByteArray) (x : Int) : ins (del L k) k x = ins L k x := by
  refine srt_ext ((h.del k).ins k x) (h.ins k x) fun j => ?_
  rw [lkp_ins, lkp_ins, lkp_del]
  by_cases hj : j = k <;> simp [hj]
theorem lkp_del_self (L : List Pr) (k : ByteArray) : lkp (del L k) k = none := by rw [lkp_del]; simp
theorem slv_keepB {K : Nat → Prop} {w w' : World} {v : Value} {xs : List Value} {g : Nat} (h : SlV K w v xs) (hK : ∀ b, K b → b < g) (hb : Below g w w') : SlV K w' v xs := h.keep fun b hk _ => hb.block b (hK b hk)
end Go.Proofs.YtnegblckbomgdaaDoor.Ht
end
section
namespace Go.Proofs.YtnegblckbomgdaaDoor.Ht
open Go Go.RowKit Go.Shelf Go.Proofs.YtnegblckbomgdaaDoor.Mem Go.Proofs.YtnegblckbomgdaaDoor.PA Go.Proofs.YtnegblckbomgdaaDoorW.PrintWords Go.Proofs.YtnegblckbomgdaaDoor
theorem refset_aux {w W2 w1 : World} {A1 A2 : Option Addr} {n c1 c2 : Nat} {M : List Pr} (hs2 : W2.heap.size = w.heap.size + 2) (hle : w.heap.size + 2 ≤ w1.heap.size) (h1 : SlV (Fresh W2) w1 (.slice A1 n c1) (ksV M)) (h2 : SlV (Fresh W2) w1 (.slice A2 n c2) (xsV M)) (o : Obj) :
    RefV (fun b => w.heap.size + 2 ≤ b ∧ b < w1.heap.size) (((w1.setCell ⟨w.heap.size, 0, none⟩ (.slice A1 n c1)).setCell ⟨w.heap.size, 1, none⟩ (.slice A2 n c2)).alloc o) (.agg #[.slice A1 n c1, .slice A2 n c2]) M := by
  have hk : ∀ {v : Value} {xs : List Value}, SlV (Fresh W2) w1 v xs → SlV (fun b => w.heap.size + 2 ≤ b ∧ b < w1.heap.size) (((w1.setCell ⟨w.heap.size, 0, none⟩ (.slice A1 n c1)).setCell ⟨w.heap.size, 1, none⟩ (.slice A2 n c2)).alloc o) v xs := fun h =>
    (h.bound.mono (K' := fun b => w.heap.size + 2 ≤ b ∧ b < w1.heap.size) fun b hb => ⟨by have := hb.1; unfold Fresh at this; omega, hb.2⟩).keep fun b hb _ => by
      rw [Below.heap_alloc _ _ _ (by simpa using hb.2), Below.heap_setCell _ _ _ _ (show b ≠ w.heap.size by omega), Below.heap_setCell _ _ _ _ (show b ≠ w.heap.size by omega)]
  exact ⟨_, _, rfl, hk h1, hk h2⟩
set_option maxRecDepth 100000 in
set_option maxHeartbeats 8000000 in
theorem refset_c (K : Nat → Prop) (v : Value) (L : List Pr) (hS : Srt L) (hSm : Sm L) (hl : L.length ≤ 1000000) (k : ByteArray) (x : Int) (w : World) (h : RefV K w v L) :
    Calls Tryd.prog 71 #[v, .string k, .int .i64 x] w (Ret (fun v' w' => RefV (Fresh w) w' v' (ins L k x)) w) := by
  have hC := fun V (hw : Below w.heap.size w V) => refcut_c K v L k V (h.below hw) hl
  obtain ⟨s, t, rfl, hs, ht⟩ := h
  obtain ⟨A0, c0, rfl⟩ := SlV.form' hs
  obtain ⟨A9, c9, rfl⟩ := SlV.form' ht
  obtain ⟨M, hM⟩ : ∃ M, M = del L k := ⟨_, rfl⟩
  have hSM : Srt M := by rw [hM]; exact hS.del k
  have hSmM : Sm M := by rw [hM]; exact hSm.del k
  have hlM : M.length ≤ L.length := by rw [hM]; exact List.length_filter_le _ _
  have hno : lkp M k = none := by rw [hM]; exact lkp_del_self L k
  have hins : ins L k x = M.take (rnk M k) ++ [(k, x)] ++ M.drop (rnk M k) := by
    rw [← ins_del hS, ← hM, ins_take hSM x hno]; simp
  rw [hins]
  rw [← hM] at hC
  obtain ⟨i, hi⟩ : ∃ i, i = rnk M k := ⟨_, rfl⟩
  obtain ⟨n, hn⟩ : ∃ n, n = M.length := ⟨_, rfl⟩
  have hin : i ≤ n := by rw [hi, hn]; exact rnk_le _ _
  have hn6 : n ≤ 1000000 := by omega
  have HC : Hid (∀ V, Below w.heap.size w V → Calls Tryd.prog 70 #[.agg #[.slice A0 L.length c0, .slice A9 L.length c9], .string k] V (Ret (fun v' w' => ∃ A1 c1 A2 c2, v' = .agg #[.slice A1 n c1, .slice A2 n c2] ∧ SlV (Fresh V) w' (.slice A1 n c1) (ksV M) ∧ SlV (Fresh V) w' (.slice A2 n c2) (xsV M)) V)) := Lib.hid fun V hw => by
    have h := hC V hw
    rw [ksV_length, xsV_length] at h
    refine ret_of h fun v' w' hB hv => ?_
    obtain ⟨s', t', rfl, h1, h2⟩ := hv
    obtain ⟨A1, c1, rfl⟩ := SlV.form' h1
    obtain ⟨A2, c2, rfl⟩ := SlV.form' h2
    rw [ksV_length, ← hn] at h1 ⊢
    rw [xsV_length, ← hn] at h2 ⊢
    exact ⟨A1, c1, A2, c2, rfl, h1, h2⟩
  clear hC
  have HA := Lib.hid (fun (K' : Nat → Prop) (u : Value) V (hv : RefV K' V u M) => refat_c K' u M hSM hSmM (by omega) k V hv)
  rw [hno, ← hi] at HA
  rw [← hi]
  have HN := Lib.hid hn
  have hinI : (i : Int) ≤ (n : Int) := by omega
  have hi0 : (0 : Int) ≤ (i : Int) := by omega
  clear hins hno hSmM hSM hM hS hSm hl hlM hs ht hi hn
  rw [ksV_length, xsV_length] at *
  have hb2 : Below w.heap.size w ((w.alloc (.cells #[.slice A0 L.length c0, .slice A9 L.length c9] RT)).alloc (.cells #[.slice none 0 0, .slice none 0 0] RT)) := ((Below.refl _ _).alloc (Nat.le_refl _) _).alloc (by simp) _
  have B3 := blk_alloc (blk_new w (.cells #[.slice A0 L.length c0, .slice A9 L.length c9] RT)) (.cells #[.slice none 0 0, .slice none 0 0] RT)
  have B6 := heap_k1 w (.cells #[.slice A0 L.length c0, .slice A9 L.length c9] RT) (.cells #[.slice none 0 0, .slice none 0 0] RT)
  have hs2 : ((w.alloc (.cells #[.slice A0 L.length c0, .slice A9 L.length c9] RT)).alloc (.cells #[.slice none 0 0, .slice none 0 0] RT)).heap.size = w.heap.size + 2 := by simp
  obtain ⟨⟨b0, b1⟩, -⟩ := box2 B3
  have HB2 := Lib.hid hb2; have HB3 := Lib.hid B3; have HB6 := Lib.hid B6; have HS2 := Lib.hid hs2
  clear hb2 B3 B6 hs2
  go_enter Tryd.func71, Tryd.ntmps71
  go_upto_region 1 with fail
  generalize (w.alloc (.cells #[.slice A0 L.length c0, .slice A9 L.length c9] RT)).alloc (.cells #[.slice none 0 0, .slice none 0 0] RT) = W2 at HB2 HB3 HB6 HS2 b0 b1 ⊢
  go_upto_region 4 with (first
    | (go_at_call 70; ((with_reducible refine (HC.out _ HB2.out).mono ?_); rintro e w1 ⟨v1, rfl, ⟨A1, c1, A2, c2, rfl, hs1, ht1⟩, hb1⟩; have B3 := blk_below HB3.out hb1; obtain ⟨⟨b0, b1⟩, f0, f1⟩ := box2 B3; have HX3 := Lib.hid (put2 (a' := .slice A1 n c1) (b' := .slice A2 n c2) B3); have b2 := fun o => (box2 (blk_alloc HX3.out o)).1.1; have b3 := fun o => (box2 (blk_alloc HX3.out o)).1.2; have HX6 := Lib.hid (blk_below HB6.out hb1); have HBX := Lib.hid (below_trans HB2.out hb1); have HK := Lib.hid (And.intro hs1 ht1); have HSZ := Lib.hid (Nat.le_trans (Nat.le_of_eq HS2.out.symm) hb1.size); have HRV := Lib.hid (refset_aux HS2.out HSZ.out hs1 ht1); clear hs1 ht1 hb1 B3))
    | (go_at_call 81; ((with_reducible refine (HA.out _ _ _ (HRV.out _)).mono ?_); rintro e w2 ⟨v2, rfl, rfl, hb2⟩; have HB2F := Lib.hid hb2; clear hb2))
    | fail)
  have F3 := Lib.hid (blk_below (blk_alloc HX3.out _) HB2F.out)
  have hg2 := HSZ.out
  have hb2 := HB2F.out
  have F7 : Hid (w2.heap[w1.heap.size]? = some (.cells #[.slice none 0 0, .slice none 0 0] RT (0, 0))) := Lib.hid (blk_below (by have h := blk_new ((w1.setCell ⟨w.heap.size, 0, none⟩ (.slice A1 n c1)).setCell ⟨w.heap.size, 1, none⟩ (.slice A2 n c2)) (.cells #[.slice none 0 0, .slice none 0 0] RT); simpa using h) hb2)
  have F6 : Hid (w2.heap[w.heap.size + 1]? = some (.cells #[.slice none 0 0, .slice none 0 0] RT (0, 0))) := Lib.hid (blk_below (blk_alloc (blk_far (blk_far HX6.out (p := ⟨w.heap.size, 0, none⟩) (show w.heap.size + 1 ≠ w.heap.size by omega) _) (p := ⟨w.heap.size, 1, none⟩) (show w.heap.size + 1 ≠ w.heap.size by omega) _) _) hb2)
  have FB : Hid (Below w.heap.size w w2) := Lib.hid (below_trans ((((HBX.out.setCell (p := ⟨w.heap.size, 0, none⟩) (Nat.le_refl _) _).setCell (p := ⟨w.heap.size, 1, none⟩) (Nat.le_refl _) _)).alloc (by simp; omega) _) hb2)
  obtain ⟨HK1, HT1⟩ : Hid (SlV (fun b => w.heap.size + 2 ≤ b ∧ b < w1.heap.size) w2 (.slice A1 n c1) (ksV M)) ∧ Hid (SlV (fun b => w.heap.size + 2 ≤ b ∧ b < w1.heap.size) w2 (.slice A2 n c2) (xsV M)) := by
    obtain ⟨s', t', e, h1, h2⟩ := HRV.out (.cells #[.slice none 0 0, .slice none 0 0] RT)
    simp only [Value.agg.injEq, Array.mk.injEq, List.cons.injEq, and_true] at e
    obtain ⟨rfl, rfl⟩ := e
    exact ⟨Lib.hid (h1.below hb2), Lib.hid (h2.below hb2)⟩
  clear HB2F hb2 HX3 HX6 HBX HK HRV b0 b1 b2 b3 f0 f1 HB2 HB3 HB6 HS2 HC HA HSZ
  have hgw2 := blk_lt F7.out
  generalize w1.heap.size = g at *
  obtain ⟨K1, hK1⟩ : ∃ K1 : Nat → Prop, K1 = fun b => w.heap.size + 2 ≤ b ∧ b < g := ⟨_, rfl⟩
  have hK1g : ∀ b, K1 b → b < g := fun b h => by rw [hK1] at h; exact h.2
  rw [← hK1] at HK1 HT1
  have hc1 := (SlV.caps HK1.out).1
  have hc2 := (SlV.caps HT1.out).1
  rw [ksV_length, ← HN.out] at hc1
  rw [xsV_length, ← HN.out] at hc2
  have hsl1 := slice_to 32 TS Tryd.underlying32 (by kernel_rfl) A1 n c1 i hin hc1
  have hsl2 := slice_to 33 TI Tryd.underlying33 (by kernel_rfl) A2 n c2 i hin hc2
  obtain ⟨d1, hd1, hsl3⟩ := slice_from (P := Tryd.prog) 1 32 TS Tryd.underlying32 (by kernel_rfl) A1 n c1 i (i : Int) rfl hin hc1
  obtain ⟨d2, hd2, hsl4⟩ := slice_from (P := Tryd.prog) 1 33 TI Tryd.underlying33 (by kernel_rfl) A2 n c2 i (i : Int) rfl hin hc2
  have HD1 := Lib.hid hd1; have HD2 := Lib.hid hd2
  have HB : Hid (SetB w2 g (.slice none 0 0) (.slice none 0 0) [] w2) := Lib.hid ⟨F7.out, World.ownsRow_nil _ _ _ _, World.ownsRow_nil _ _ _ _, Below.refl _ _⟩
  clear hK1 hd1 hd2 F7
  go_cut [19] from 19 (fun s19 wx => ∃ Ao co Ax cx, Aside (SetB w2 g (.slice Ao i co) (.slice Ax i cx) (M.take i) wx))
  case first =>
    have hB3 := HB.out.2.2.2
    obtain ⟨⟨q0, q1⟩, -⟩ := box2 ((hB3.block w.heap.size (by omega)).trans F3.out)
    obtain ⟨⟨q2, q3⟩, -⟩ := box2 HB.out.1
    have HSTD := Lib.hid HB.out.st.drew
    have HQ0 := Lib.hid q0; have HQ1 := Lib.hid q1; have HQ2 := Lib.hid q2; have HQ3 := Lib.hid q3
    have HRK := Lib.hid (fun V (hV : Below g w2 V) => (by have h := (slv_keepB HK1.out hK1g (hB3.trans hV)).take i (by rw [ksV_length, ← HN.out]; exact hin); rw [← ksV_take] at h; exact h))
    have HRX := Lib.hid (fun V (hV : Below g w2 V) => (by have h := (slv_keepB HT1.out hK1g (hB3.trans hV)).take i (by rw [xsV_length, ← HN.out]; exact hin); rw [← xsV_take] at h; exact h))
    have hmK : [] ++ (ksV (M.take i)) = ksV (M.take i) := rfl
    have hmX : [] ++ (xsV (M.take i)) = xsV (M.take i) := rfl
    have hnK : ([] : List Value).length + ((ksV (M.take i))).length = i := by simp only [ksV_length, xsV_length, List.length_append, List.length_take, List.length_drop, List.length_cons, List.length_nil, ← HN.out, Nat.min_eq_left hin] <;> omega
    have hnX : ([] : List Value).length + ((xsV (M.take i))).length = i := by simp only [ksV_length, xsV_length, List.length_append, List.length_take, List.length_drop, List.length_cons, List.length_nil, ← HN.out, Nat.min_eq_left hin] <;> omega
    have hlK : ([] : List Value).length + ((ksV (M.take i))).length ≤ 1000002 := by rw [hnK]; omega
    have hlX : ([] : List Value).length + ((xsV (M.take i))).length ≤ 1000002 := by rw [hnX]; omega
    refine wp_region_noPanic ?_
    refine RegL.wp_region_late [15, 17] (fun (w' : World) => w'.cell? ⟨w.heap.size, 0, none⟩ = some (.slice A1 n c1) ∧ w'.cell? ⟨w.heap.size, 1, none⟩ = some (.slice A2 n c2) ∧ w'.cell? ⟨g, 0, none⟩ = some (.slice none 0 0) ∧ w'.cell? ⟨g, 1, none⟩ = some (.slice none 0 0)) (by kernel_rfl) ?_
    have hS0 : (fun (w' : World) => w'.cell? ⟨w.heap.size, 0, none⟩ = some (.slice A1 n c1) ∧ w'.cell? ⟨w.heap.size, 1, none⟩ = some (.slice A2 n c2) ∧ w'.cell? ⟨g, 0, none⟩ = some (.slice none 0 0) ∧ w'.cell? ⟨g, 1, none⟩ = some (.slice none 0 0)) w2.drew := ⟨q0, q1, q2, q3⟩
    clear q0 q1 q2 q3 hB3
    show RegL.wpAnyL _ _ _ _ _ _ 18 _ _ _
    refine RegL.wpAnyL_take (i := 0) (oi := ⟨some 19, Op.fieldAddr 35 (Operand.tmp 7) 0, _, _, _, _⟩) (v := ?vvr41) rfl (by kernel_rfl) (by kernel_rfl) (by kernel_rfl) (by kernel_rfl) (by kernel_rfl) (by kernel_rfl) (fun _ _ _ h => h) (Or.inl ⟨by rfl, ?hyr41⟩) hS0 ?restr41
    case hyr41 => ((intro w hSw; (try dsimp only at hSw); go_simp) <;> with_reducible rfl)
    try simp only [Act.put, List.setIfInBounds_toArray, List.set_cons_zero, List.set_cons_succ]
    refine RegL.wpAnyL_take (i := 1) (oi := ⟨some 20, Op.load 32 (Operand.tmp 19), _, _, _, _⟩) (v := ?vvr42) rfl (by kernel_rfl) (by kernel_rfl) (by kernel_rfl) (by kernel_rfl) (by kernel_rfl) (by kernel_rfl) (fun _ _ _ h => h) (Or.inl ⟨by rfl, ?hyr42⟩) hS0 ?restr42
    case hyr42 => ((intro w hSw; (try dsimp only at hSw); go_simp) <;> with_reducible rfl)
    try simp only [Act.put, List.setIfInBounds_toArray, List.set_cons_zero, List.set_cons_succ]
    refine RegL.wpAnyL_take (i := 2) (oi := ⟨some 21, Op.fieldAddr 35 (Operand.tmp 3) 0, _, _, _, _⟩) (v := ?vvr43) rfl (by kernel_rfl) (by kernel_rfl) (by kernel_rfl) (by kernel_rfl) (by kernel_rfl) (by kernel_rfl) (fun _ _ _ h => h) (Or.inl ⟨by rfl, ?hyr43⟩) hS0 ?restr43
    case hyr43 => ((intro w hSw; (try dsimp only at hSw); go_simp) <;> with_reducible rfl)
    try simp only [Act.put, List.setIfInBounds_toArray, List.set_cons_zero, List.set_cons_succ]
    refine RegL.wpAnyL_take (i := 3) (oi := ⟨some 22, Op.load 32 (Operand.tmp 21), _, _, _, _⟩) (v := ?vvr44) rfl (by kernel_rfl) (by kernel_rfl) (by kernel_rfl) (by kernel_rfl) (by kernel_rfl) (by kernel_rfl) (fun _ _ _ h => h) (Or.inl ⟨by rfl, ?hyr44⟩) hS0 ?restr44
    case hyr44 => ((intro w hSw; (try dsimp only at hSw); go_simp) <;> with_reducible rfl)
    try simp only [Act.put, List.setIfInBounds_toArray, List.set_cons_zero, List.set_cons_succ]
    refine RegL.wpAnyL_take (i := 4) (oi := ⟨some 23, Op.move (Operand.tmp 8), _, _, _, _⟩) (v := ?vvr45) rfl (by kernel_rfl) (by kernel_rfl) (by kernel_rfl) (by kernel_rfl) (by kernel_rfl) (by kernel_rfl) (fun _ _ _ h => h) (Or.inl ⟨by rfl, ?hyr45⟩) hS0 ?restr45
    case hyr45 => ((intro w hSw; (try dsimp only at hSw); go_simp) <;> with_reducible rfl)
    try simp only [Act.put, List.setIfInBounds_toArray, List.set_cons_zero, List.set_cons_succ]
    refine RegL.wpAnyL_take (i := 5) (oi := ⟨some 24, Op.slice 32 (Operand.tmp 22) none (some (Operand.tmp 23)) none, _, _, _, _⟩) (v := ?vvr46) rfl (by kernel_rfl) (by kernel_rfl) (by kernel_rfl) (by kernel_rfl) (by kernel_rfl) (by kernel_rfl) (fun _ _ _ h => h) (Or.inl ⟨by rfl, ?hyr46⟩) hS0 ?restr46
    case hyr46 => ((intro w hSw; (try dsimp only at hSw); go_simp) <;> with_reducible rfl)
    try simp only [Act.put, List.setIfInBounds_toArray, List.set_cons_zero, List.set_cons_succ]
    refine RegL.wpAnyL_take (i := 7) (oi := ⟨some 26, Op.fieldAddr 35 (Operand.tmp 7) 1, _, _, _, _⟩) (v := ?vvr47) rfl (by kernel_rfl) (by kernel_rfl) (by kernel_rfl) (by kernel_rfl) (by kernel_rfl) (by kernel_rfl) (fun _ _ _ h => h) (Or.inl ⟨by rfl, ?hyr47⟩) hS0 ?restr47
    case hyr47 => ((intro w hSw; (try dsimp only at hSw); go_simp) <;> with_reducible rfl)
    try simp only [Act.put, List.setIfInBounds_toArray, List.set_cons_zero, List.set_cons_succ]
    refine RegL.wpAnyL_take (i := 8) (oi := ⟨some 27, Op.load 33 (Operand.tmp 26), _, _, _, _⟩) (v := ?vvr48) rfl (by kernel_rfl) (by kernel_rfl) (by kernel_rfl) (by kernel_rfl) (by kernel_rfl) (by kernel_rfl) (fun _ _ _ h => h) (Or.inl ⟨by rfl, ?hyr48⟩) hS0 ?restr48
    case hyr48 => ((intro w hSw; (try dsimp only at hSw); go_simp) <;> with_reducible rfl)
    try simp only [Act.put, List.setIfInBounds_toArray, List.set_cons_zero, List.set_cons_succ]
    refine RegL.wpAnyL_take (i := 9) (oi := ⟨some 28, Op.fieldAddr 35 (Operand.tmp 3) 1, _, _, _, _⟩) (v := ?vvr49) rfl (by kernel_rfl) (by kernel_rfl) (by kernel_rfl) (by kernel_rfl) (by kernel_rfl) (by kernel_rfl) (fun _ _ _ h => h) (Or.inl ⟨by rfl, ?hyr49⟩) hS0 ?restr49
    case hyr49 => ((intro w hSw; (try dsimp only at hSw); go_simp) <;> with_reducible rfl)
    try simp only [Act.put, List.setIfInBounds_toArray, List.set_cons_zero, List.set_cons_succ]
    refine RegL.wpAnyL_take (i := 10) (oi := ⟨some 29, Op.load 33 (Operand.tmp 28), _, _, _, _⟩) (v := ?vvr410) rfl (by kernel_rfl) (by kernel_rfl) (by kernel_rfl) (by kernel_rfl) (by kernel_rfl) (by kernel_rfl) (fun _ _ _ h => h) (Or.inl ⟨by rfl, ?hyr410⟩) hS0 ?restr410
    case hyr410 => ((intro w hSw; (try dsimp only at hSw); go_simp) <;> with_reducible rfl)
    try simp only [Act.put, List.setIfInBounds_toArray, List.set_cons_zero, List.set_cons_succ]
    refine RegL.wpAnyL_take (i := 11) (oi := ⟨some 30, Op.move (Operand.tmp 8), _, _, _, _⟩) (v := ?vvr411) rfl (by kernel_rfl) (by kernel_rfl) (by kernel_rfl) (by kernel_rfl) (by kernel_rfl) (by kernel_rfl) (fun _ _ _ h => h) (Or.inl ⟨by rfl, ?hyr411⟩) hS0 ?restr411
    case hyr411 => ((intro w hSw; (try dsimp only at hSw); go_simp) <;> with_reducible rfl)
    try simp only [Act.put, List.setIfInBounds_toArray, List.set_cons_zero, List.set_cons_succ]
    refine RegL.wpAnyL_take (i := 12) (oi := ⟨some 31, Op.slice 33 (Operand.tmp 29) none (some (Operand.tmp 30)) none, _, _, _, _⟩) (v := ?vvr412) rfl (by kernel_rfl) (by kernel_rfl) (by kernel_rfl) (by kernel_rfl) (by kernel_rfl) (by kernel_rfl) (fun _ _ _ h => h) (Or.inl ⟨by rfl, ?hyr412⟩) hS0 ?restr412
    case hyr412 => ((intro w hSw; (try dsimp only at hSw); go_simp) <;> with_reducible rfl)
    try simp only [Act.put, List.setIfInBounds_toArray, List.set_cons_zero, List.set_cons_succ]
    refine RegL.wpAnyL_ready (rs := [6]) (by kernel_rfl) (by simp) ?_
    refine RegL.AllReadyL.calm (o := ⟨some 25, Op.call { callee := Callee.builtin Builtin.append, args := #[Operand.tmp 20, Operand.tmp 24], argTypes := #[32, 32] }, _, _, _, _⟩) rfl (fun K hK => ?_) RegL.AllReadyL.nil
    refine step_append_slv (o := ⟨some 25, _, _, _, _, _⟩) ?_ (.tmp 20) (.tmp 24) 32 TS (.string ⟨#[]⟩) 16 ?_ Tryd.underlying32 info_str ?_ ?_ (g + 1) (.slice none 0 0) _ [] (ksV (M.take i)) A1 i c1 K1 ?_ ?_ (HSTD.out).1 (HRK.out _ (Below.refl _ _).drew) (HSTD.out).2.2.2 ?_ ?_
    (rfl); (rfl); (rfl); (decide); (rfl); (rfl); (exact Nat.le_trans (Nat.mul_le_mul_right _ hlK) (by decide))
    intro v1 w1 hO1 hg1 _
    have HS1 := Lib.hid (St.keys' (HSTD.out) hO1 rfl hg1 hmK)
    obtain ⟨A5, c5, rfl⟩ := row_slice' hO1 hnK
    clear hO1 hg1
    refine hK.out _ _ (⟨St.cell HS1.out HQ0.out (show w.heap.size < g + 1 by omega), St.cell HS1.out HQ1.out (show w.heap.size < g + 1 by omega), St.cell HS1.out HQ2.out (Nat.lt_succ_self g), St.cell HS1.out HQ3.out (Nat.lt_succ_self g)⟩) (fun hS0x => ?_)
    clear hK K
    try simp only [Act.put, List.setIfInBounds_toArray, List.set_cons_zero, List.set_cons_succ]
    refine RegL.wpAnyL_take (i := 14) (oi := ⟨some 33, Op.fieldAddr 35 (Operand.tmp 7) 0, _, _, _, _⟩) (v := ?vvr413) rfl (by kernel_rfl) (by kernel_rfl) (by kernel_rfl) (by kernel_rfl) (by kernel_rfl) (by kernel_rfl) (fun _ _ _ h => h) (Or.inl ⟨by rfl, ?hyr413⟩) hS0x ?restr413
    case hyr413 => ((intro w hSw; (try dsimp only at hSw); go_simp) <;> with_reducible rfl)
    try simp only [Act.put, List.setIfInBounds_toArray, List.set_cons_zero, List.set_cons_succ]
    refine RegL.wpAnyL_ready (rs := [13]) (by kernel_rfl) (by simp) ?_
    refine RegL.AllReadyL.calm (o := ⟨some 32, Op.call { callee := Callee.builtin Builtin.append, args := #[Operand.tmp 27, Operand.tmp 31], argTypes := #[33, 33] }, _, _, _, _⟩) rfl (fun K hK => ?_) RegL.AllReadyL.nil
    refine step_append_slv (o := ⟨some 32, _, _, _, _, _⟩) ?_ (.tmp 27) (.tmp 31) 33 TI (.int .i64 0) 8 ?_ Tryd.underlying33 info_int ?_ ?_ (g + 1) (.slice none 0 0) _ [] (xsV (M.take i)) A2 i c2 K1 ?_ ?_ (HS1.out).2.1 (HRX.out _ (HS1.out.2.2.1.mono (Nat.le_succ g))) (HS1.out).2.2.2 ?_ ?_
    (rfl); (rfl); (rfl); (decide); (rfl); (rfl); (exact Nat.le_trans (Nat.mul_le_mul_right _ hlX) (by decide))
    intro v2 w2 hO2 hg2 _
    have HS2 := Lib.hid (St.things' (HS1.out) hO2 rfl hg2 hmX)
    obtain ⟨A6, c6, rfl⟩ := row_slice' hO2 hnX
    have hbx := (HS2.out.2.2.1.block g (Nat.lt_succ_self g)).trans HB.out.1
    have HP := Lib.hid (set_put HB.out (M' := M.take i) HS2.out)
    obtain ⟨⟨e0, e1⟩, f0, f1⟩ := box2 hbx
    clear hO2 hg2 hbx
    refine hK.out _ _ (⟨St.cell HS2.out HQ0.out (show w.heap.size < g + 1 by omega), St.cell HS2.out HQ1.out (show w.heap.size < g + 1 by omega), St.cell HS2.out HQ2.out (Nat.lt_succ_self g), St.cell HS2.out HQ3.out (Nat.lt_succ_self g)⟩) (fun hS0xx => ?_)
    clear hK K
    try simp only [Act.put, List.setIfInBounds_toArray, List.set_cons_zero, List.set_cons_succ]
    refine RegL.wpAnyL_ready (rs := [15]) (by kernel_rfl) (by simp) ?_
    refine RegL.AllReadyL.late (o := ⟨none, Op.store 32 (Operand.tmp 33) (Operand.tmp 25), _, _, _, _⟩) rfl (by kernel_rfl) (fun K hK => ?_) RegL.AllReadyL.nil
    go_simp
    refine hK.out _ _ ?_
    clear hK K
    try simp only [Act.put, List.setIfInBounds_toArray, List.set_cons_zero, List.set_cons_succ]
    refine RegL.wpAnyL_ready (rs := [16]) (by kernel_rfl) (by simp) ?_
    refine RegL.AllReadyL.late (o := ⟨some 34, Op.fieldAddr 35 (Operand.tmp 7) 1, _, _, _, _⟩) rfl (by kernel_rfl) (fun K hK => ?_) RegL.AllReadyL.nil
    go_simp
    refine hK.out _ _ ?_
    clear hK K
    try simp only [Act.put, List.setIfInBounds_toArray, List.set_cons_zero, List.set_cons_succ]
    refine RegL.wpAnyL_ready (rs := [17]) (by kernel_rfl) (by simp) ?_
    refine RegL.AllReadyL.late (o := ⟨none, Op.store 33 (Operand.tmp 34) (Operand.tmp 32), _, _, _, _⟩) rfl (by kernel_rfl) (fun K hK => ?_) RegL.AllReadyL.nil
    go_simp
    refine hK.out _ _ ?_
    clear hK K
    try simp only [Act.put, List.setIfInBounds_toArray, List.set_cons_zero, List.set_cons_succ]
    refine RegL.wpAnyL_done (by kernel_rfl) ?_ _
    refine NoPanic.normal ?_
    (go_wp2_with fail)
    go_meet
    exact ⟨_, _, _, _, HP⟩
  obtain ⟨Ao, co, Ax, cx, hB⟩ := hcut
  replace HB := Lib.hid hB.out
  clear hB
  go_upto_region 5 with fail
  go_cut [19] from 19 (fun s19 wx => ∃ Ao co Ax cx, Aside (SetB w2 g (.slice Ao (i + 1) co) (.slice Ax (i + 1) cx) (M.take i ++ [(k, x)]) wx))
  case first =>
    have hB3 := HB.out.2.2.2
    obtain ⟨⟨q0, q1⟩, -⟩ := box2 ((hB3.block w.heap.size (by omega)).trans F3.out)
    obtain ⟨⟨q2, q3⟩, -⟩ := box2 HB.out.1
    have HSTD := Lib.hid HB.out.st.drew
    have HQ0 := Lib.hid q0; have HQ1 := Lib.hid q1; have HQ2 := Lib.hid q2; have HQ3 := Lib.hid q3
    have hmK : (ksV (M.take i)) ++ [Value.string k] = ksV (M.take i ++ [(k, x)]) := (ksV_snoc _ _ _).symm
    have hmX : (xsV (M.take i)) ++ [Value.int .i64 x] = xsV (M.take i ++ [(k, x)]) := (xsV_snoc _ _ _).symm
    have hnK : ((ksV (M.take i)) : List Value).length + ([Value.string k]).length = i + 1 := by simp only [ksV_length, xsV_length, List.length_append, List.length_take, List.length_drop, List.length_cons, List.length_nil, ← HN.out, Nat.min_eq_left hin] <;> omega
    have hnX : ((xsV (M.take i)) : List Value).length + ([Value.int .i64 x]).length = i + 1 := by simp only [ksV_length, xsV_length, List.length_append, List.length_take, List.length_drop, List.length_cons, List.length_nil, ← HN.out, Nat.min_eq_left hin] <;> omega
    have hlK : ((ksV (M.take i)) : List Value).length + ([Value.string k]).length ≤ 1000002 := by rw [hnK]; omega
    have hlX : ((xsV (M.take i)) : List Value).length + ([Value.int .i64 x]).length ≤ 1000002 := by rw [hnX]; omega
    refine wp_region_noPanic ?_
    refine RegL.wp_region_late [11, 13] (fun (w' : World) => w'.cell? ⟨w.heap.size, 0, none⟩ = some (.slice A1 n c1) ∧ w'.cell? ⟨w.heap.size, 1, none⟩ = some (.slice A2 n c2) ∧ w'.cell? ⟨g, 0, none⟩ = some (.slice Ao i co) ∧ w'.cell? ⟨g, 1, none⟩ = some (.slice Ax i cx)) (by kernel_rfl) ?_
    have hS0 : (fun (w' : World) => w'.cell? ⟨w.heap.size, 0, none⟩ = some (.slice A1 n c1) ∧ w'.cell? ⟨w.heap.size, 1, none⟩ = some (.slice A2 n c2) ∧ w'.cell? ⟨g, 0, none⟩ = some (.slice Ao i co) ∧ w'.cell? ⟨g, 1, none⟩ = some (.slice Ax i cx)) wc.drew := ⟨q0, q1, q2, q3⟩
    clear q0 q1 q2 q3 hB3
    show RegL.wpAnyL _ _ _ _ _ _ 14 _ _ _
    refine RegL.wpAnyL_take (i := 0) (oi := ⟨some 35, Op.fieldAddr 35 (Operand.tmp 7) 0, _, _, _, _⟩) (v := ?vvr51) rfl (by kernel_rfl) (by kernel_rfl) (by kernel_rfl) (by kernel_rfl) (by kernel_rfl) (by kernel_rfl) (fun _ _ _ h => h) (Or.inl ⟨by rfl, ?hyr51⟩) hS0 ?restr51
    case hyr51 => ((intro w hSw; (try dsimp only at hSw); go_simp) <;> with_reducible rfl)
    try simp only [Act.put, List.setIfInBounds_toArray, List.set_cons_zero, List.set_cons_succ]
    refine RegL.wpAnyL_take (i := 1) (oi := ⟨some 36, Op.load 32 (Operand.tmp 35), _, _, _, _⟩) (v := ?vvr52) rfl (by kernel_rfl) (by kernel_rfl) (by kernel_rfl) (by kernel_rfl) (by kernel_rfl) (by kernel_rfl) (fun _ _ _ h => h) (Or.inl ⟨by rfl, ?hyr52⟩) hS0 ?restr52
    case hyr52 => ((intro w hSw; (try dsimp only at hSw); go_simp) <;> with_reducible rfl)
    try simp only [Act.put, List.setIfInBounds_toArray, List.set_cons_zero, List.set_cons_succ]
    refine RegL.wpAnyL_take (i := 2) (oi := ⟨some 37, Op.move (Operand.tmp 1), _, _, _, _⟩) (v := ?vvr53) rfl (by kernel_rfl) (by kernel_rfl) (by kernel_rfl) (by kernel_rfl) (by kernel_rfl) (by kernel_rfl) (fun _ _ _ h => h) (Or.inl ⟨by rfl, ?hyr53⟩) hS0 ?restr53
    case hyr53 => ((intro w hSw; (try dsimp only at hSw); go_simp) <;> with_reducible rfl)
    try simp only [Act.put, List.setIfInBounds_toArray, List.set_cons_zero, List.set_cons_succ]
    refine RegL.wpAnyL_take (i := 5) (oi := ⟨some 40, Op.fieldAddr 35 (Operand.tmp 7) 1, _, _, _, _⟩) (v := ?vvr54) rfl (by kernel_rfl) (by kernel_rfl) (by kernel_rfl) (by kernel_rfl) (by kernel_rfl) (by kernel_rfl) (fun _ _ _ h => h) (Or.inl ⟨by rfl, ?hyr54⟩) hS0 ?restr54
    case hyr54 => ((intro w hSw; (try dsimp only at hSw); go_simp) <;> with_reducible rfl)
    try simp only [Act.put, List.setIfInBounds_toArray, List.set_cons_zero, List.set_cons_succ]
    refine RegL.wpAnyL_take (i := 6) (oi := ⟨some 41, Op.load 33 (Operand.tmp 40), _, _, _, _⟩) (v := ?vvr55) rfl (by kernel_rfl) (by kernel_rfl) (by kernel_rfl) (by kernel_rfl) (by kernel_rfl) (by kernel_rfl) (fun _ _ _ h => h) (Or.inl ⟨by rfl, ?hyr55⟩) hS0 ?restr55
    case hyr55 => ((intro w hSw; (try dsimp only at hSw); go_simp) <;> with_reducible rfl)
    try simp only [Act.put, List.setIfInBounds_toArray, List.set_cons_zero, List.set_cons_succ]
    refine RegL.wpAnyL_take (i := 7) (oi := ⟨some 42, Op.move (Operand.tmp 2), _, _, _, _⟩) (v := ?vvr56) rfl (by kernel_rfl) (by kernel_rfl) (by kernel_rfl) (by kernel_rfl) (by kernel_rfl) (by kernel_rfl) (fun _ _ _ h => h) (Or.inl ⟨by rfl, ?hyr56⟩) hS0 ?restr56
    case hyr56 => ((intro w hSw; (try dsimp only at hSw); go_simp) <;> with_reducible rfl)
    try simp only [Act.put, List.setIfInBounds_toArray, List.set_cons_zero, List.set_cons_succ]
    refine RegL.wpAnyL_ready (rs := [3, 8]) (by kernel_rfl) (by simp) ?_
    refine RegL.AllReadyL.calm (o := ⟨some 38, Op.buildSlice 32 1 #[(0, Operand.tmp 37)], _, _, _, _⟩) rfl (fun K hK => ?_) ?_
    · go_simp
      refine hK.out _ _ (⟨cell_below hS0.1 ((Below.refl _ _).alloc (Nat.le_refl _) _), cell_below hS0.2.1 ((Below.refl _ _).alloc (Nat.le_refl _) _), cell_below hS0.2.2.1 ((Below.refl _ _).alloc (Nat.le_refl _) _), cell_below hS0.2.2.2 ((Below.refl _ _).alloc (Nat.le_refl _) _)⟩) (fun hS0x => ?_)
      clear hK K
      try simp only [Act.put, List.setIfInBounds_toArray, List.set_cons_zero, List.set_cons_succ]
      refine RegL.wpAnyL_ready (rs := [4, 8]) (by kernel_rfl) (by simp) ?_
      refine RegL.AllReadyL.calm (o := ⟨some 39, Op.call { callee := Callee.builtin Builtin.append, args := #[Operand.tmp 36, Operand.tmp 38], argTypes := #[32, 32] }, _, _, _, _⟩) rfl (fun K hK => ?_) ?_
      · refine step_append_slv (o := ⟨some 39, _, _, _, _, _⟩) ?_ (.tmp 36) (.tmp 38) 32 TS (.string ⟨#[]⟩) 16 ?_ Tryd.underlying32 info_str ?_ ?_ (g + 1) (.slice Ao i co) _ (ksV (M.take i)) [Value.string k] (some ⟨wc.heap.size, 0, none⟩) 1 1 (fun _ => True) ?_ ?_ (HSTD.out.alloc _).1 (Bl.slv (Bl.new TS (.string k) _) rfl) (HSTD.out.alloc _).2.2.2 ?_ ?_
        (rfl); (rfl); (rfl); (decide); (rfl); (rfl); (exact Nat.le_trans (Nat.mul_le_mul_right _ hlK) (by decide))
        intro v1 w1 hO1 hg1 _
        have HS1 := Lib.hid (St.keys' (HSTD.out.alloc _) hO1 rfl hg1 hmK)
        obtain ⟨A5, c5, rfl⟩ := row_slice' hO1 hnK
        clear hO1 hg1
        refine hK.out _ _ (⟨St.cell HS1.out HQ0.out (show w.heap.size < g + 1 by omega), St.cell HS1.out HQ1.out (show w.heap.size < g + 1 by omega), St.cell HS1.out HQ2.out (Nat.lt_succ_self g), St.cell HS1.out HQ3.out (Nat.lt_succ_self g)⟩) (fun hS0xx => ?_)
        clear hK K
        try simp only [Act.put, List.setIfInBounds_toArray, List.set_cons_zero, List.set_cons_succ]
        refine RegL.wpAnyL_take (i := 10) (oi := ⟨some 45, Op.fieldAddr 35 (Operand.tmp 7) 0, _, _, _, _⟩) (v := ?vvr57) rfl (by kernel_rfl) (by kernel_rfl) (by kernel_rfl) (by kernel_rfl) (by kernel_rfl) (by kernel_rfl) (fun _ _ _ h => h) (Or.inl ⟨by rfl, ?hyr57⟩) hS0xx ?restr57
        case hyr57 => ((intro w hSw; (try dsimp only at hSw); go_simp) <;> with_reducible rfl)
        try simp only [Act.put, List.setIfInBounds_toArray, List.set_cons_zero, List.set_cons_succ]
        refine RegL.wpAnyL_ready (rs := [8]) (by kernel_rfl) (by simp) ?_
        refine RegL.AllReadyL.calm (o := ⟨some 43, Op.buildSlice 33 1 #[(0, Operand.tmp 42)], _, _, _, _⟩) rfl (fun K hK => ?_) RegL.AllReadyL.nil
        go_simp
        refine hK.out _ _ (⟨cell_below hS0xx.1 ((Below.refl _ _).alloc (Nat.le_refl _) _), cell_below hS0xx.2.1 ((Below.refl _ _).alloc (Nat.le_refl _) _), cell_below hS0xx.2.2.1 ((Below.refl _ _).alloc (Nat.le_refl _) _), cell_below hS0xx.2.2.2 ((Below.refl _ _).alloc (Nat.le_refl _) _)⟩) (fun hS0xxx => ?_)
        clear hK K
        try simp only [Act.put, List.setIfInBounds_toArray, List.set_cons_zero, List.set_cons_succ]
        refine RegL.wpAnyL_ready (rs := [9]) (by kernel_rfl) (by simp) ?_
        refine RegL.AllReadyL.calm (o := ⟨some 44, Op.call { callee := Callee.builtin Builtin.append, args := #[Operand.tmp 41, Operand.tmp 43], argTypes := #[33, 33] }, _, _, _, _⟩) rfl (fun K hK => ?_) RegL.AllReadyL.nil
        refine step_append_slv (o := ⟨some 44, _, _, _, _, _⟩) ?_ (.tmp 41) (.tmp 43) 33 TI (.int .i64 0) 8 ?_ Tryd.underlying33 info_int ?_ ?_ (g + 1) (.slice Ax i cx) _ (xsV (M.take i)) [Value.int .i64 x] (some ⟨w1.heap.size, 0, none⟩) 1 1 (fun _ => True) ?_ ?_ (HS1.out.alloc _).2.1 (Bl.slv (Bl.new TI (.int .i64 x) _) rfl) (HS1.out.alloc _).2.2.2 ?_ ?_
        (rfl); (rfl); (rfl); (decide); (rfl); (rfl); (exact Nat.le_trans (Nat.mul_le_mul_right _ hlX) (by decide))
        intro v2 w2 hO2 hg2 _
        have HS2 := Lib.hid (St.things' (HS1.out.alloc _) hO2 rfl hg2 hmX)
        obtain ⟨A6, c6, rfl⟩ := row_slice' hO2 hnX
        have hbx := (HS2.out.2.2.1.block g (Nat.lt_succ_self g)).trans HB.out.1
        have HP := Lib.hid (set_put HB.out (M' := M.take i ++ [(k, x)]) HS2.out)
        obtain ⟨⟨e0, e1⟩, f0, f1⟩ := box2 hbx
        clear hO2 hg2 hbx
        refine hK.out _ _ (⟨St.cell HS2.out HQ0.out (show w.heap.size < g + 1 by omega), St.cell HS2.out HQ1.out (show w.heap.size < g + 1 by omega), St.cell HS2.out HQ2.out (Nat.lt_succ_self g), St.cell HS2.out HQ3.out (Nat.lt_succ_self g)⟩) (fun hS0xxxx => ?_)
        clear hK K
        try simp only [Act.put, List.setIfInBounds_toArray, List.set_cons_zero, List.set_cons_succ]
        refine RegL.wpAnyL_ready (rs := [11]) (by kernel_rfl) (by simp) ?_
        refine RegL.AllReadyL.late (o := ⟨none, Op.store 32 (Operand.tmp 45) (Operand.tmp 39), _, _, _, _⟩) rfl (by kernel_rfl) (fun K hK => ?_) RegL.AllReadyL.nil
        go_simp
        refine hK.out _ _ ?_
        clear hK K
        try simp only [Act.put, List.setIfInBounds_toArray, List.set_cons_zero, List.set_cons_succ]
        refine RegL.wpAnyL_ready (rs := [12]) (by kernel_rfl) (by simp) ?_
        refine RegL.AllReadyL.late (o := ⟨some 46, Op.fieldAddr 35 (Operand.tmp 7) 1, _, _, _, _⟩) rfl (by kernel_rfl) (fun K hK => ?_) RegL.AllReadyL.nil
        go_simp
        refine hK.out _ _ ?_
        clear hK K
        try simp only [Act.put, List.setIfInBounds_toArray, List.set_cons_zero, List.set_cons_succ]
        refine RegL.wpAnyL_ready (rs := [13]) (by kernel_rfl) (by simp) ?_
        refine RegL.AllReadyL.late (o := ⟨none, Op.store 33 (Operand.tmp 46) (Operand.tmp 44), _, _, _, _⟩) rfl (by kernel_rfl) (fun K hK => ?_) RegL.AllReadyL.nil
        go_simp
        refine hK.out _ _ ?_
        clear hK K
        try simp only [Act.put, List.setIfInBounds_toArray, List.set_cons_zero, List.set_cons_succ]
        refine RegL.wpAnyL_done (by kernel_rfl) ?_ _
        refine NoPanic.normal ?_
        (go_wp2_with fail)
        go_meet
        exact ⟨_, _, _, _, HP⟩
      refine RegL.AllReadyL.calm (o := ⟨some 43, Op.buildSlice 33 1 #[(0, Operand.tmp 42)], _, _, _, _⟩) rfl (fun K hK => ?_) RegL.AllReadyL.nil
      go_simp
      refine hK.out _ _ (⟨cell_below hS0x.1 ((Below.refl _ _).alloc (Nat.le_refl _) _), cell_below hS0x.2.1 ((Below.refl _ _).alloc (Nat.le_refl _) _), cell_below hS0x.2.2.1 ((Below.refl _ _).alloc (Nat.le_refl _) _), cell_below hS0x.2.2.2 ((Below.refl _ _).alloc (Nat.le_refl _) _)⟩) (fun hS0xx => ?_)
      clear hK K
      try simp only [Act.put, List.setIfInBounds_toArray, List.set_cons_zero, List.set_cons_succ]
      refine RegL.wpAnyL_ready (rs := [4]) (by kernel_rfl) (by simp) ?_
      refine RegL.AllReadyL.calm (o := ⟨some 39, Op.call { callee := Callee.builtin Builtin.append, args := #[Operand.tmp 36, Operand.tmp 38], argTypes := #[32, 32] }, _, _, _, _⟩) rfl (fun K hK => ?_) RegL.AllReadyL.nil
      refine step_append_slv (o := ⟨some 39, _, _, _, _, _⟩) ?_ (.tmp 36) (.tmp 38) 32 TS (.string ⟨#[]⟩) 16 ?_ Tryd.underlying32 info_str ?_ ?_ (g + 1) (.slice Ao i co) _ (ksV (M.take i)) [Value.string k] (some ⟨wc.heap.size, 0, none⟩) 1 1 (fun _ => True) ?_ ?_ ((HSTD.out.alloc _).alloc _).1 (Bl.slv ((Bl.new TS (.string k) _).alloc _) rfl) ((HSTD.out.alloc _).alloc _).2.2.2 ?_ ?_
      (rfl); (rfl); (rfl); (decide); (rfl); (rfl); (exact Nat.le_trans (Nat.mul_le_mul_right _ hlK) (by decide))
      intro v1 w1 hO1 hg1 _
      have HS1 := Lib.hid (St.keys' ((HSTD.out.alloc _).alloc _) hO1 rfl hg1 hmK)
      obtain ⟨A5, c5, rfl⟩ := row_slice' hO1 hnK
      have HBX := Lib.hid (Bl.grown (Bl.new1 TI (.int .i64 x) _ _) ((HSTD.out.alloc _).alloc _).1 (by decide) hg1)
      clear hO1 hg1
      refine hK.out _ _ (⟨St.cell HS1.out HQ0.out (show w.heap.size < g + 1 by omega), St.cell HS1.out HQ1.out (show w.heap.size < g + 1 by omega), St.cell HS1.out HQ2.out (Nat.lt_succ_self g), St.cell HS1.out HQ3.out (Nat.lt_succ_self g)⟩) (fun hS0xxx => ?_)
      clear hK K
      try simp only [Act.put, List.setIfInBounds_toArray, List.set_cons_zero, List.set_cons_succ]
      refine RegL.wpAnyL_take (i := 10) (oi := ⟨some 45, Op.fieldAddr 35 (Operand.tmp 7) 0, _, _, _, _⟩) (v := ?vvr58) rfl (by kernel_rfl) (by kernel_rfl) (by kernel_rfl) (by kernel_rfl) (by kernel_rfl) (by kernel_rfl) (fun _ _ _ h => h) (Or.inl ⟨by rfl, ?hyr58⟩) hS0xxx ?restr58
      case hyr58 => ((intro w hSw; (try dsimp only at hSw); go_simp) <;> with_reducible rfl)
      try simp only [Act.put, List.setIfInBounds_toArray, List.set_cons_zero, List.set_cons_succ]
      refine RegL.wpAnyL_ready (rs := [9]) (by kernel_rfl) (by simp) ?_
      refine RegL.AllReadyL.calm (o := ⟨some 44, Op.call { callee := Callee.builtin Builtin.append, args := #[Operand.tmp 41, Operand.tmp 43], argTypes := #[33, 33] }, _, _, _, _⟩) rfl (fun K hK => ?_) RegL.AllReadyL.nil
      refine step_append_slv (o := ⟨some 44, _, _, _, _, _⟩) ?_ (.tmp 41) (.tmp 43) 33 TI (.int .i64 0) 8 ?_ Tryd.underlying33 info_int ?_ ?_ (g + 1) (.slice Ax i cx) _ (xsV (M.take i)) [Value.int .i64 x] (some ⟨wc.heap.size + 1, 0, none⟩) 1 1 (fun _ => True) ?_ ?_ (HS1.out).2.1 (Bl.slv HBX.out rfl) (HS1.out).2.2.2 ?_ ?_
      (rfl); (rfl); (rfl); (decide); (rfl); (rfl); (exact Nat.le_trans (Nat.mul_le_mul_right _ hlX) (by decide))
      intro v2 w2 hO2 hg2 _
      have HS2 := Lib.hid (St.things' (HS1.out) hO2 rfl hg2 hmX)
      obtain ⟨A6, c6, rfl⟩ := row_slice' hO2 hnX
      have hbx := (HS2.out.2.2.1.block g (Nat.lt_succ_self g)).trans HB.out.1
      have HP := Lib.hid (set_put HB.out (M' := M.take i ++ [(k, x)]) HS2.out)
      obtain ⟨⟨e0, e1⟩, f0, f1⟩ := box2 hbx
      clear hO2 hg2 hbx
      refine hK.out _ _ (⟨St.cell HS2.out HQ0.out (show w.heap.size < g + 1 by omega), St.cell HS2.out HQ1.out (show w.heap.size < g + 1 by omega), St.cell HS2.out HQ2.out (Nat.lt_succ_self g), St.cell HS2.out HQ3.out (Nat.lt_succ_self g)⟩) (fun hS0xxxx => ?_)
      clear hK K
      try simp only [Act.put, List.setIfInBounds_toArray, List.set_cons_zero, List.set_cons_succ]
      refine RegL.wpAnyL_ready (rs := [11]) (by kernel_rfl) (by simp) ?_
      refine RegL.AllReadyL.late (o := ⟨none, Op.store 32 (Operand.tmp 45) (Operand.tmp 39), _, _, _, _⟩) rfl (by kernel_rfl) (fun K hK => ?_) RegL.AllReadyL.nil
      go_simp
      refine hK.out _ _ ?_
      clear hK K
      try simp only [Act.put, List.setIfInBounds_toArray, List.set_cons_zero, List.set_cons_succ]
      refine RegL.wpAnyL_ready (rs := [12]) (by kernel_rfl) (by simp) ?_
      refine RegL.AllReadyL.late (o := ⟨some 46, Op.fieldAddr 35 (Operand.tmp 7) 1, _, _, _, _⟩) rfl (by kernel_rfl) (fun K hK => ?_) RegL.AllReadyL.nil
      go_simp
      refine hK.out _ _ ?_
      clear hK K
      try simp only [Act.put, List.setIfInBounds_toArray, List.set_cons_zero, List.set_cons_succ]
      refine RegL.wpAnyL_ready (rs := [13]) (by kernel_rfl) (by simp) ?_
      refine RegL.AllReadyL.late (o := ⟨none, Op.store 33 (Operand.tmp 46) (Operand.tmp 44), _, _, _, _⟩) rfl (by kernel_rfl) (fun K hK => ?_) RegL.AllReadyL.nil
      go_simp
      refine hK.out _ _ ?_
      clear hK K
      try simp only [Act.put, List.setIfInBounds_toArray, List.set_cons_zero, List.set_cons_succ]
      refine RegL.wpAnyL_done (by kernel_rfl) ?_ _
      refine NoPanic.normal ?_
      (go_wp2_with fail)
      go_meet
      exact ⟨_, _, _, _, HP⟩
    refine RegL.AllReadyL.calm (o := ⟨some 43, Op.buildSlice 33 1 #[(0, Operand.tmp 42)], _, _, _, _⟩) rfl (fun K hK => ?_) RegL.AllReadyL.nil
    go_simp
    refine hK.out _ _ (⟨cell_below hS0.1 ((Below.refl _ _).alloc (Nat.le_refl _) _), cell_below hS0.2.1 ((Below.refl _ _).alloc (Nat.le_refl _) _), cell_below hS0.2.2.1 ((Below.refl _ _).alloc (Nat.le_refl _) _), cell_below hS0.2.2.2 ((Below.refl _ _).alloc (Nat.le_refl _) _)⟩) (fun hS0x => ?_)
    clear hK K
    try simp only [Act.put, List.setIfInBounds_toArray, List.set_cons_zero, List.set_cons_succ]
    refine RegL.wpAnyL_ready (rs := [3]) (by kernel_rfl) (by simp) ?_
    refine RegL.AllReadyL.calm (o := ⟨some 38, Op.buildSlice 32 1 #[(0, Operand.tmp 37)], _, _, _, _⟩) rfl (fun K hK => ?_) RegL.AllReadyL.nil
    go_simp
    refine hK.out _ _ (⟨cell_below hS0x.1 ((Below.refl _ _).alloc (Nat.le_refl _) _), cell_below hS0x.2.1 ((Below.refl _ _).alloc (Nat.le_refl _) _), cell_below hS0x.2.2.1 ((Below.refl _ _).alloc (Nat.le_refl _) _), cell_below hS0x.2.2.2 ((Below.refl _ _).alloc (Nat.le_refl _) _)⟩) (fun hS0xx => ?_)
    clear hK K
    try simp only [Act.put, List.setIfInBounds_toArray, List.set_cons_zero, List.set_cons_succ]
    refine RegL.wpAnyL_ready (rs := [4]) (by kernel_rfl) (by simp) ?_
    refine RegL.AllReadyL.calm (o := ⟨some 39, Op.call { callee := Callee.builtin Builtin.append, args := #[Operand.tmp 36, Operand.tmp 38], argTypes := #[32, 32] }, _, _, _, _⟩) rfl (fun K hK => ?_) RegL.AllReadyL.nil
    refine step_append_slv (o := ⟨some 39, _, _, _, _, _⟩) ?_ (.tmp 36) (.tmp 38) 32 TS (.string ⟨#[]⟩) 16 ?_ Tryd.underlying32 info_str ?_ ?_ (g + 1) (.slice Ao i co) _ (ksV (M.take i)) [Value.string k] (some ⟨wc.heap.size + 1, 0, none⟩) 1 1 (fun _ => True) ?_ ?_ ((HSTD.out.alloc _).alloc _).1 (Bl.slv (Bl.new1 TS (.string k) _ _) rfl) ((HSTD.out.alloc _).alloc _).2.2.2 ?_ ?_
    (rfl); (rfl); (rfl); (decide); (rfl); (rfl); (exact Nat.le_trans (Nat.mul_le_mul_right _ hlK) (by decide))
    intro v1 w1 hO1 hg1 _
    have HS1 := Lib.hid (St.keys' ((HSTD.out.alloc _).alloc _) hO1 rfl hg1 hmK)
    obtain ⟨A5, c5, rfl⟩ := row_slice' hO1 hnK
    have HBX := Lib.hid (Bl.grown ((Bl.new TI (.int .i64 x) _).alloc _) ((HSTD.out.alloc _).alloc _).1 (by decide) hg1)
    clear hO1 hg1
    refine hK.out _ _ (⟨St.cell HS1.out HQ0.out (show w.heap.size < g + 1 by omega), St.cell HS1.out HQ1.out (show w.heap.size < g + 1 by omega), St.cell HS1.out HQ2.out (Nat.lt_succ_self g), St.cell HS1.out HQ3.out (Nat.lt_succ_self g)⟩) (fun hS0xxx => ?_)
    clear hK K
    try simp only [Act.put, List.setIfInBounds_toArray, List.set_cons_zero, List.set_cons_succ]
    refine RegL.wpAnyL_take (i := 10) (oi := ⟨some 45, Op.fieldAddr 35 (Operand.tmp 7) 0, _, _, _, _⟩) (v := ?vvr59) rfl (by kernel_rfl) (by kernel_rfl) (by kernel_rfl) (by kernel_rfl) (by kernel_rfl) (by kernel_rfl) (fun _ _ _ h => h) (Or.inl ⟨by rfl, ?hyr59⟩) hS0xxx ?restr59
    case hyr59 => ((intro w hSw; (try dsimp only at hSw); go_simp) <;> with_reducible rfl)
    try simp only [Act.put, List.setIfInBounds_toArray, List.set_cons_zero, List.set_cons_succ]
    refine RegL.wpAnyL_ready (rs := [9]) (by kernel_rfl) (by simp) ?_
    refine RegL.AllReadyL.calm (o := ⟨some 44, Op.call { callee := Callee.builtin Builtin.append, args := #[Operand.tmp 41, Operand.tmp 43], argTypes := #[33, 33] }, _, _, _, _⟩) rfl (fun K hK => ?_) RegL.AllReadyL.nil
    refine step_append_slv (o := ⟨some 44, _, _, _, _, _⟩) ?_ (.tmp 41) (.tmp 43) 33 TI (.int .i64 0) 8 ?_ Tryd.underlying33 info_int ?_ ?_ (g + 1) (.slice Ax i cx) _ (xsV (M.take i)) [Value.int .i64 x] (some ⟨wc.heap.size, 0, none⟩) 1 1 (fun _ => True) ?_ ?_ (HS1.out).2.1 (Bl.slv HBX.out rfl) (HS1.out).2.2.2 ?_ ?_
    (rfl); (rfl); (rfl); (decide); (rfl); (rfl); (exact Nat.le_trans (Nat.mul_le_mul_right _ hlX) (by decide))
    intro v2 w2 hO2 hg2 _
    have HS2 := Lib.hid (St.things' (HS1.out) hO2 rfl hg2 hmX)
    obtain ⟨A6, c6, rfl⟩ := row_slice' hO2 hnX
    have hbx := (HS2.out.2.2.1.block g (Nat.lt_succ_self g)).trans HB.out.1
    have HP := Lib.hid (set_put HB.out (M' := M.take i ++ [(k, x)]) HS2.out)
    obtain ⟨⟨e0, e1⟩, f0, f1⟩ := box2 hbx
    clear hO2 hg2 hbx
    refine hK.out _ _ (⟨St.cell HS2.out HQ0.out (show w.heap.size < g + 1 by omega), St.cell HS2.out HQ1.out (show w.heap.size < g + 1 by omega), St.cell HS2.out HQ2.out (Nat.lt_succ_self g), St.cell HS2.out HQ3.out (Nat.lt_succ_self g)⟩) (fun hS0xxxx => ?_)
    clear hK K
    try simp only [Act.put, List.setIfInBounds_toArray, List.set_cons_zero, List.set_cons_succ]
    refine RegL.wpAnyL_ready (rs := [11]) (by kernel_rfl) (by simp) ?_
    refine RegL.AllReadyL.late (o := ⟨none, Op.store 32 (Operand.tmp 45) (Operand.tmp 39), _, _, _, _⟩) rfl (by kernel_rfl) (fun K hK => ?_) RegL.AllReadyL.nil
    go_simp
    refine hK.out _ _ ?_
    clear hK K
    try simp only [Act.put, List.setIfInBounds_toArray, List.set_cons_zero, List.set_cons_succ]
    refine RegL.wpAnyL_ready (rs := [12]) (by kernel_rfl) (by simp) ?_
    refine RegL.AllReadyL.late (o := ⟨some 46, Op.fieldAddr 35 (Operand.tmp 7) 1, _, _, _, _⟩) rfl (by kernel_rfl) (fun K hK => ?_) RegL.AllReadyL.nil
    go_simp
    refine hK.out _ _ ?_
    clear hK K
    try simp only [Act.put, List.setIfInBounds_toArray, List.set_cons_zero, List.set_cons_succ]
    refine RegL.wpAnyL_ready (rs := [13]) (by kernel_rfl) (by simp) ?_
    refine RegL.AllReadyL.late (o := ⟨none, Op.store 33 (Operand.tmp 46) (Operand.tmp 44), _, _, _, _⟩) rfl (by kernel_rfl) (fun K hK => ?_) RegL.AllReadyL.nil
    go_simp
    refine hK.out _ _ ?_
    clear hK K
    try simp only [Act.put, List.setIfInBounds_toArray, List.set_cons_zero, List.set_cons_succ]
    refine RegL.wpAnyL_done (by kernel_rfl) ?_ _
    refine NoPanic.normal ?_
    (go_wp2_with fail)
    go_meet
    exact ⟨_, _, _, _, HP⟩
  obtain ⟨Ao, co, Ax, cx, hB⟩ := hcut
  replace HB := Lib.hid hB.out
  clear hB
  go_upto_region 6 with fail
  go_cut [19] from 19 (fun s19 wx => ∃ Ao co Ax cx, Aside (SetB w2 g (.slice Ao (n + 1) co) (.slice Ax (n + 1) cx) (M.take i ++ [(k, x)] ++ M.drop i) wx))
  case first =>
    have hB3 := HB.out.2.2.2
    obtain ⟨⟨q0, q1⟩, -⟩ := box2 ((hB3.block w.heap.size (by omega)).trans F3.out)
    obtain ⟨⟨q2, q3⟩, -⟩ := box2 HB.out.1
    have HSTD := Lib.hid HB.out.st.drew
    have HQ0 := Lib.hid q0; have HQ1 := Lib.hid q1; have HQ2 := Lib.hid q2; have HQ3 := Lib.hid q3
    have HRK := Lib.hid (fun V (hV : Below g wc V) => (by have h := slv_from (slv_keepB HK1.out hK1g (hB3.trans hV)) i (by rw [ksV_length, ← HN.out]; exact hin) d1 HD1.out; rw [← ksV_drop] at h; exact h))
    have HRX := Lib.hid (fun V (hV : Below g wc V) => (by have h := slv_from (slv_keepB HT1.out hK1g (hB3.trans hV)) i (by rw [xsV_length, ← HN.out]; exact hin) d2 HD2.out; rw [← xsV_drop] at h; exact h))
    have hmK : (ksV (M.take i ++ [(k, x)])) ++ (ksV (M.drop i)) = ksV (M.take i ++ [(k, x)] ++ M.drop i) := (ksV_append _ _).symm
    have hmX : (xsV (M.take i ++ [(k, x)])) ++ (xsV (M.drop i)) = xsV (M.take i ++ [(k, x)] ++ M.drop i) := (xsV_append _ _).symm
    have hnK : ((ksV (M.take i ++ [(k, x)])) : List Value).length + ((ksV (M.drop i))).length = n + 1 := by simp only [ksV_length, xsV_length, List.length_append, List.length_take, List.length_drop, List.length_cons, List.length_nil, ← HN.out, Nat.min_eq_left hin] <;> omega
    have hnX : ((xsV (M.take i ++ [(k, x)])) : List Value).length + ((xsV (M.drop i))).length = n + 1 := by simp only [ksV_length, xsV_length, List.length_append, List.length_take, List.length_drop, List.length_cons, List.length_nil, ← HN.out, Nat.min_eq_left hin] <;> omega
    have hlK : ((ksV (M.take i ++ [(k, x)])) : List Value).length + ((ksV (M.drop i))).length ≤ 1000002 := by rw [hnK]; omega
    have hlX : ((xsV (M.take i ++ [(k, x)])) : List Value).length + ((xsV (M.drop i))).length ≤ 1000002 := by rw [hnX]; omega
    refine wp_region_noPanic ?_
    refine RegL.wp_region_late [15, 17] (fun (w' : World) => w'.cell? ⟨w.heap.size, 0, none⟩ = some (.slice A1 n c1) ∧ w'.cell? ⟨w.heap.size, 1, none⟩ = some (.slice A2 n c2) ∧ w'.cell? ⟨g, 0, none⟩ = some (.slice Ao (i + 1) co) ∧ w'.cell? ⟨g, 1, none⟩ = some (.slice Ax (i + 1) cx)) (by kernel_rfl) ?_
    have hS0 : (fun (w' : World) => w'.cell? ⟨w.heap.size, 0, none⟩ = some (.slice A1 n c1) ∧ w'.cell? ⟨w.heap.size, 1, none⟩ = some (.slice A2 n c2) ∧ w'.cell? ⟨g, 0, none⟩ = some (.slice Ao (i + 1) co) ∧ w'.cell? ⟨g, 1, none⟩ = some (.slice Ax (i + 1) cx)) wc.drew := ⟨q0, q1, q2, q3⟩
    clear q0 q1 q2 q3 hB3
    show RegL.wpAnyL _ _ _ _ _ _ 18 _ _ _
    refine RegL.wpAnyL_take (i := 0) (oi := ⟨some 47, Op.fieldAddr 35 (Operand.tmp 7) 0, _, _, _, _⟩) (v := ?vvr61) rfl (by kernel_rfl) (by kernel_rfl) (by kernel_rfl) (by kernel_rfl) (by kernel_rfl) (by kernel_rfl) (fun _ _ _ h => h) (Or.inl ⟨by rfl, ?hyr61⟩) hS0 ?restr61
    case hyr61 => ((intro w hSw; (try dsimp only at hSw); go_simp) <;> with_reducible rfl)
    try simp only [Act.put, List.setIfInBounds_toArray, List.set_cons_zero, List.set_cons_succ]
    refine RegL.wpAnyL_take (i := 1) (oi := ⟨some 48, Op.load 32 (Operand.tmp 47), _, _, _, _⟩) (v := ?vvr62) rfl (by kernel_rfl) (by kernel_rfl) (by kernel_rfl) (by kernel_rfl) (by kernel_rfl) (by kernel_rfl) (fun _ _ _ h => h) (Or.inl ⟨by rfl, ?hyr62⟩) hS0 ?restr62
    case hyr62 => ((intro w hSw; (try dsimp only at hSw); go_simp) <;> with_reducible rfl)
    try simp only [Act.put, List.setIfInBounds_toArray, List.set_cons_zero, List.set_cons_succ]
    refine RegL.wpAnyL_take (i := 2) (oi := ⟨some 49, Op.fieldAddr 35 (Operand.tmp 3) 0, _, _, _, _⟩) (v := ?vvr63) rfl (by kernel_rfl) (by kernel_rfl) (by kernel_rfl) (by kernel_rfl) (by kernel_rfl) (by kernel_rfl) (fun _ _ _ h => h) (Or.inl ⟨by rfl, ?hyr63⟩) hS0 ?restr63
    case hyr63 => ((intro w hSw; (try dsimp only at hSw); go_simp) <;> with_reducible rfl)
    try simp only [Act.put, List.setIfInBounds_toArray, List.set_cons_zero, List.set_cons_succ]
    refine RegL.wpAnyL_take (i := 3) (oi := ⟨some 50, Op.load 32 (Operand.tmp 49), _, _, _, _⟩) (v := ?vvr64) rfl (by kernel_rfl) (by kernel_rfl) (by kernel_rfl) (by kernel_rfl) (by kernel_rfl) (by kernel_rfl) (fun _ _ _ h => h) (Or.inl ⟨by rfl, ?hyr64⟩) hS0 ?restr64
    case hyr64 => ((intro w hSw; (try dsimp only at hSw); go_simp) <;> with_reducible rfl)
    try simp only [Act.put, List.setIfInBounds_toArray, List.set_cons_zero, List.set_cons_succ]
    refine RegL.wpAnyL_take (i := 4) (oi := ⟨some 51, Op.move (Operand.tmp 8), _, _, _, _⟩) (v := ?vvr65) rfl (by kernel_rfl) (by kernel_rfl) (by kernel_rfl) (by kernel_rfl) (by kernel_rfl) (by kernel_rfl) (fun _ _ _ h => h) (Or.inl ⟨by rfl, ?hyr65⟩) hS0 ?restr65
    case hyr65 => ((intro w hSw; (try dsimp only at hSw); go_simp) <;> with_reducible rfl)
    try simp only [Act.put, List.setIfInBounds_toArray, List.set_cons_zero, List.set_cons_succ]
    refine RegL.wpAnyL_take (i := 5) (oi := ⟨some 52, Op.slice 32 (Operand.tmp 50) (some (Operand.tmp 51)) none none, _, _, _, _⟩) (v := ?vvr66) rfl (by kernel_rfl) (by kernel_rfl) (by kernel_rfl) (by kernel_rfl) (by kernel_rfl) (by kernel_rfl) (fun _ _ _ h => h) (Or.inl ⟨by rfl, ?hyr66⟩) hS0 ?restr66
    case hyr66 => ((intro w hSw; (try dsimp only at hSw); go_simp) <;> with_reducible rfl)
    try simp only [Act.put, List.setIfInBounds_toArray, List.set_cons_zero, List.set_cons_succ]
    refine RegL.wpAnyL_take (i := 7) (oi := ⟨some 54, Op.fieldAddr 35 (Operand.tmp 7) 1, _, _, _, _⟩) (v := ?vvr67) rfl (by kernel_rfl) (by kernel_rfl) (by kernel_rfl) (by kernel_rfl) (by kernel_rfl) (by kernel_rfl) (fun _ _ _ h => h) (Or.inl ⟨by rfl, ?hyr67⟩) hS0 ?restr67
    case hyr67 => ((intro w hSw; (try dsimp only at hSw); go_simp) <;> with_reducible rfl)
    try simp only [Act.put, List.setIfInBounds_toArray, List.set_cons_zero, List.set_cons_succ]
    refine RegL.wpAnyL_take (i := 8) (oi := ⟨some 55, Op.load 33 (Operand.tmp 54), _, _, _, _⟩) (v := ?vvr68) rfl (by kernel_rfl) (by kernel_rfl) (by kernel_rfl) (by kernel_rfl) (by kernel_rfl) (by kernel_rfl) (fun _ _ _ h => h) (Or.inl ⟨by rfl, ?hyr68⟩) hS0 ?restr68
    case hyr68 => ((intro w hSw; (try dsimp only at hSw); go_simp) <;> with_reducible rfl)
    try simp only [Act.put, List.setIfInBounds_toArray, List.set_cons_zero, List.set_cons_succ]
    refine RegL.wpAnyL_take (i := 9) (oi := ⟨some 56, Op.fieldAddr 35 (Operand.tmp 3) 1, _, _, _, _⟩) (v := ?vvr69) rfl (by kernel_rfl) (by kernel_rfl) (by kernel_rfl) (by kernel_rfl) (by kernel_rfl) (by kernel_rfl) (fun _ _ _ h => h) (Or.inl ⟨by rfl, ?hyr69⟩) hS0 ?restr69
    case hyr69 => ((intro w hSw; (try dsimp only at hSw); go_simp) <;> with_reducible rfl)
    try simp only [Act.put, List.setIfInBounds_toArray, List.set_cons_zero, List.set_cons_succ]
    refine RegL.wpAnyL_take (i := 10) (oi := ⟨some 57, Op.load 33 (Operand.tmp 56), _, _, _, _⟩) (v := ?vvr610) rfl (by kernel_rfl) (by kernel_rfl) (by kernel_rfl) (by kernel_rfl) (by kernel_rfl) (by kernel_rfl) (fun _ _ _ h => h) (Or.inl ⟨by rfl, ?hyr610⟩) hS0 ?restr610
    case hyr610 => ((intro w hSw; (try dsimp only at hSw); go_simp) <;> with_reducible rfl)
    try simp only [Act.put, List.setIfInBounds_toArray, List.set_cons_zero, List.set_cons_succ]
    refine RegL.wpAnyL_take (i := 11) (oi := ⟨some 58, Op.move (Operand.tmp 8), _, _, _, _⟩) (v := ?vvr611) rfl (by kernel_rfl) (by kernel_rfl) (by kernel_rfl) (by kernel_rfl) (by kernel_rfl) (by kernel_rfl) (fun _ _ _ h => h) (Or.inl ⟨by rfl, ?hyr611⟩) hS0 ?restr611
    case hyr611 => ((intro w hSw; (try dsimp only at hSw); go_simp) <;> with_reducible rfl)
    try simp only [Act.put, List.setIfInBounds_toArray, List.set_cons_zero, List.set_cons_succ]
    refine RegL.wpAnyL_take (i := 12) (oi := ⟨some 59, Op.slice 33 (Operand.tmp 57) (some (Operand.tmp 58)) none none, _, _, _, _⟩) (v := ?vvr612) rfl (by kernel_rfl) (by kernel_rfl) (by kernel_rfl) (by kernel_rfl) (by kernel_rfl) (by kernel_rfl) (fun _ _ _ h => h) (Or.inl ⟨by rfl, ?hyr612⟩) hS0 ?restr612
    case hyr612 => ((intro w hSw; (try dsimp only at hSw); go_simp) <;> with_reducible rfl)
    try simp only [Act.put, List.setIfInBounds_toArray, List.set_cons_zero, List.set_cons_succ]
    refine RegL.wpAnyL_ready (rs := [6]) (by kernel_rfl) (by simp) ?_
    refine RegL.AllReadyL.calm (o := ⟨some 53, Op.call { callee := Callee.builtin Builtin.append, args := #[Operand.tmp 48, Operand.tmp 52], argTypes := #[32, 32] }, _, _, _, _⟩) rfl (fun K hK => ?_) RegL.AllReadyL.nil
    refine step_append_slv (o := ⟨some 53, _, _, _, _, _⟩) ?_ (.tmp 48) (.tmp 52) 32 TS (.string ⟨#[]⟩) 16 ?_ Tryd.underlying32 info_str ?_ ?_ (g + 1) (.slice Ao (i + 1) co) _ (ksV (M.take i ++ [(k, x)])) (ksV (M.drop i)) d1 (n - i) (c1 - i) K1 ?_ ?_ (HSTD.out).1 (HRK.out _ (Below.refl _ _).drew) (HSTD.out).2.2.2 ?_ ?_
    (rfl); (rfl); (rfl); (decide); (rfl); (rfl); (exact Nat.le_trans (Nat.mul_le_mul_right _ hlK) (by decide))
    intro v1 w1 hO1 hg1 _
    have HS1 := Lib.hid (St.keys' (HSTD.out) hO1 rfl hg1 hmK)
    obtain ⟨A5, c5, rfl⟩ := row_slice' hO1 hnK
    clear hO1 hg1
    refine hK.out _ _ (⟨St.cell HS1.out HQ0.out (show w.heap.size < g + 1 by omega), St.cell HS1.out HQ1.out (show w.heap.size < g + 1 by omega), St.cell HS1.out HQ2.out (Nat.lt_succ_self g), St.cell HS1.out HQ3.out (Nat.lt_succ_self g)⟩) (fun hS0x => ?_)
    clear hK K
    try simp only [Act.put, List.setIfInBounds_toArray, List.set_cons_zero, List.set_cons_succ]
    refine RegL.wpAnyL_take (i := 14) (oi := ⟨some 61, Op.fieldAddr 35 (Operand.tmp 7) 0, _, _, _, _⟩) (v := ?vvr613) rfl (by kernel_rfl) (by kernel_rfl) (by kernel_rfl) (by kernel_rfl) (by kernel_rfl) (by kernel_rfl) (fun _ _ _ h => h) (Or.inl ⟨by rfl, ?hyr613⟩) hS0x ?restr613
    case hyr613 => ((intro w hSw; (try dsimp only at hSw); go_simp) <;> with_reducible rfl)
    try simp only [Act.put, List.setIfInBounds_toArray, List.set_cons_zero, List.set_cons_succ]
    refine RegL.wpAnyL_ready (rs := [13]) (by kernel_rfl) (by simp) ?_
    refine RegL.AllReadyL.calm (o := ⟨some 60, Op.call { callee := Callee.builtin Builtin.append, args := #[Operand.tmp 55, Operand.tmp 59], argTypes := #[33, 33] }, _, _, _, _⟩) rfl (fun K hK => ?_) RegL.AllReadyL.nil
    refine step_append_slv (o := ⟨some 60, _, _, _, _, _⟩) ?_ (.tmp 55) (.tmp 59) 33 TI (.int .i64 0) 8 ?_ Tryd.underlying33 info_int ?_ ?_ (g + 1) (.slice Ax (i + 1) cx) _ (xsV (M.take i ++ [(k, x)])) (xsV (M.drop i)) d2 (n - i) (c2 - i) K1 ?_ ?_ (HS1.out).2.1 (HRX.out _ (HS1.out.2.2.1.mono (Nat.le_succ g))) (HS1.out).2.2.2 ?_ ?_
    (rfl); (rfl); (rfl); (decide); (rfl); (rfl); (exact Nat.le_trans (Nat.mul_le_mul_right _ hlX) (by decide))
    intro v2 w2 hO2 hg2 _
    have HS2 := Lib.hid (St.things' (HS1.out) hO2 rfl hg2 hmX)
    obtain ⟨A6, c6, rfl⟩ := row_slice' hO2 hnX
    have hbx := (HS2.out.2.2.1.block g (Nat.lt_succ_self g)).trans HB.out.1
    have HP := Lib.hid (set_put HB.out (M' := M.take i ++ [(k, x)] ++ M.drop i) HS2.out)
    obtain ⟨⟨e0, e1⟩, f0, f1⟩ := box2 hbx
    clear hO2 hg2 hbx
    refine hK.out _ _ (⟨St.cell HS2.out HQ0.out (show w.heap.size < g + 1 by omega), St.cell HS2.out HQ1.out (show w.heap.size < g + 1 by omega), St.cell HS2.out HQ2.out (Nat.lt_succ_self g), St.cell HS2.out HQ3.out (Nat.lt_succ_self g)⟩) (fun hS0xx => ?_)
    clear hK K
    try simp only [Act.put, List.setIfInBounds_toArray, List.set_cons_zero, List.set_cons_succ]
    refine RegL.wpAnyL_ready (rs := [15]) (by kernel_rfl) (by simp) ?_
    refine RegL.AllReadyL.late (o := ⟨none, Op.store 32 (Operand.tmp 61) (Operand.tmp 53), _, _, _, _⟩) rfl (by kernel_rfl) (fun K hK => ?_) RegL.AllReadyL.nil
    go_simp
    refine hK.out _ _ ?_
    clear hK K
    try simp only [Act.put, List.setIfInBounds_toArray, List.set_cons_zero, List.set_cons_succ]
    refine RegL.wpAnyL_ready (rs := [16]) (by kernel_rfl) (by simp) ?_
    refine RegL.AllReadyL.late (o := ⟨some 62, Op.fieldAddr 35 (Operand.tmp 7) 1, _, _, _, _⟩) rfl (by kernel_rfl) (fun K hK => ?_) RegL.AllReadyL.nil
    go_simp
    refine hK.out _ _ ?_
    clear hK K
    try simp only [Act.put, List.setIfInBounds_toArray, List.set_cons_zero, List.set_cons_succ]
    refine RegL.wpAnyL_ready (rs := [17]) (by kernel_rfl) (by simp) ?_
    refine RegL.AllReadyL.late (o := ⟨none, Op.store 33 (Operand.tmp 62) (Operand.tmp 60), _, _, _, _⟩) rfl (by kernel_rfl) (fun K hK => ?_) RegL.AllReadyL.nil
    go_simp
    refine hK.out _ _ ?_
    clear hK K
    try simp only [Act.put, List.setIfInBounds_toArray, List.set_cons_zero, List.set_cons_succ]
    refine RegL.wpAnyL_done (by kernel_rfl) ?_ _
    refine NoPanic.normal ?_
    (go_wp2_with fail)
    go_meet
    exact ⟨_, _, _, _, HP⟩
  obtain ⟨Ao, co, Ax, cx, hB⟩ := hcut
  replace HB := Lib.hid hB.out
  clear hB
  have hB3 := HB.out.2.2.2
  have B6 := (hB3.block (w.heap.size + 1) (by omega)).trans F6.out
  obtain ⟨⟨q0, q1⟩, -⟩ := box2 HB.out.1
  obtain ⟨⟨r0, r1⟩, fr0, fr1⟩ := box2 B6
  have hk : ∀ (u u' : Value) {e : TypeId} {v : Value} {xs : List Value}, wc.ownsRow (g + 1) e 1 v xs.length xs → (∀ x ∈ xs, x.oneCell' = true) → SlV (Fresh w) ((wc.setCell ⟨w.heap.size + 1, 0, none⟩ u).setCell ⟨w.heap.size + 1, 1, none⟩ u') v xs := fun u u' {e v xs} ho h1 =>
    ((SlV.of_row ho h1).keep fun b hb _ => by
      rw [Below.heap_setCell _ _ _ _ (show b ≠ w.heap.size + 1 by omega), Below.heap_setCell _ _ _ _ (show b ≠ w.heap.size + 1 by omega)]).mono fun b hb => by
        have : g + 1 ≤ b := hb
        show w.heap.size ≤ b
        omega
  have HF := Lib.hid (And.intro (hk (.slice Ao (n + 1) co) (.slice Ax (n + 1) cx) HB.out.2.1 (ksV_one _)) (And.intro (hk (.slice Ao (n + 1) co) (.slice Ax (n + 1) cx) HB.out.2.2.1 (xsV_one _)) (((FB.out.trans (hB3.mono (by omega))).setCell (p := ⟨w.heap.size + 1, 0, none⟩) (Nat.le_succ _) (.slice Ao (n + 1) co)).setCell (p := ⟨w.heap.size + 1, 1, none⟩) (Nat.le_succ _) (.slice Ax (n + 1) cx))))
  have HB6 := Lib.hid B6
  clear hk hB3 B6 hsl1 hsl2 hsl3 hsl4
  go_wp2_with fail
  refine bodyPost_ret (results_c1 rfl _ _ (w.heap.size + 1) RT #[.slice Ao (n + 1) co, .slice Ax (n + 1) cx] (0, 0) _ rfl (put2 HB6.out) Tryd.underlying35 rfl (by kernel_rfl)) rfl ?_
  exact ⟨_, rfl, ⟨_, _, rfl, HF.out.1, HF.out.2.1⟩, HF.out.2.2⟩
end Go.Proofs.YtnegblckbomgdaaDoor.Ht
end
section
namespace Go.Proofs.YtnegblckbomgdaaDoor.Ht
open Go Go.RowKit Go.Shelf Go.Proofs.YtnegblckbomgdaaDoor.Mem Go.Proofs.YtnegblckbomgdaaDoor.PA Go.Proofs.YtnegblckbomgdaaDoorW.PrintWords
attribute [local go_sem] Oper.semAt_some
abbrev opB : ByteArray := ⟨#[40]⟩
abbrev clB : ByteArray := ⟨#[41]⟩
abbrev dotB : ByteArray := ⟨#[46]⟩
def partT (sub : List Pr → ByteArray) (i : Nat) : List Pr → ByteArray
  | [] => ⟨#[]⟩
  | [_] => digT i ++ dotB
  | e :: f :: r => digT i ++ sub (e :: f :: r)
def shapeT (c : Cf) : Nat → List Pr → ByteArray
  | 0, M => (⟨#[91]⟩ ++ digT M.length) ++ ⟨#[93]⟩
  | d + 1, M => (List.range 32).foldl (fun s i => s ++ partT (shapeT c d) i (grp (chk c (12 - d)) i M)) opB ++ clB
def strZ (tx : Nat → ByteArray) (zs : List Sl) : ByteArray := zs.foldl (fun s z => s ++ tx z.1.toNat) opB
theorem strZ_snoc (tx : Nat → ByteArray) (zs : List Sl) (z : Sl) : strZ tx (zs ++ [z]) = strZ tx zs ++ tx z.1.toNat := by simp [strZ]
theorem size_cat (a b : ByteArray) : (a ++ b).size = a.size + b.size := by
  show (a ++ b).data.size = _
  rw [ByteArray.data_append, Array.size_append]; rfl
theorem strZ_size {tx : Nat → ByteArray} {S : Nat} (h : ∀ i, (tx i).size ≤ S) (zs : List Sl) : (strZ tx zs).size ≤ 1 + zs.length * S := by
  have : ∀ (zs : List Sl) (s : ByteArray), (zs.foldl (fun s z => s ++ tx z.1.toNat) s).size ≤ s.size + zs.length * S := by
    intro zs
    induction zs with
    | nil => intro s; simp
    | cons z zs ih =>
      intro s
      rw [List.foldl_cons, List.length_cons, Nat.add_mul, Nat.one_mul]
      have h1 := ih (s ++ tx z.1.toNat)
      have h2 := h z.1.toNat
      rw [size_cat] at h1
      omega
  exact this zs opB
theorem cat_assoc (a b c : ByteArray) : a ++ b ++ c = a ++ (b ++ c) := by
  apply Bs.data_inj
  simp [Bs.data_append, List.append_assoc]
theorem digL_length : ∀ k n, (digL k n).length ≤ k + 1
  | 0, n => by simp [digL]
  | k + 1, n => by
    unfold digL
    split
    · simp
    · rw [List.length_append]; have := digL_length k (n / 10); simp; omega
theorem digT_size (n : Nat) : (digT n).size ≤ 20 := by
  show (((digL 19 n).map fun x => UInt8.ofNat x).toArray).size ≤ 20
  simpa using digL_length 19 n
theorem KeepsOthers.of_below {W W' : World} (h : Below W.heap.size W W') : KeepsOthers W W' := ⟨h.size, fun k o hk _ => (h.block k (Array.getElem?_eq_some_iff.1 hk).1).trans hk⟩
theorem sbx_own {β : Type} (B bS : Nat) (f : β → Value) (t : TypeId) : OwnFrom B (fun (s : β) W => W.heap[bS]? = some (.cells #[f s] t (0, 0))) := by
  rintro s X Y row h2 hg hr
  refine (hg.block bS (blk_lt h2) (fun e => ?_)).trans h2
  obtain ⟨-, o, ho, hc⟩ := hr bS e.symm
  rw [h2] at ho; cases ho; cases hc
def NQ (Bo : Nat) (W W' : World) : Prop := ∀ (b : Nat) cs (t : TypeId) fr, W.heap[b]? = some (.cells cs t fr) → b ≠ Bo → W'.heap[b]? = some (.cells cs t fr)
theorem nq_own {β : Type} (B Bo : Nat) (W : World) : OwnFrom B (fun (_ : β) W' => NQ Bo W W') := fun s X Y row hs hg hrow b cs t fr h1 h3 => by
  have hX := hs b cs t fr h1 h3
  refine (hg.block b (blk_lt hX) (fun e => ?_)).trans hX
  obtain ⟨-, o, ho, hc⟩ := hrow b e.symm
  rw [hX] at ho; cases ho; cases hc
def AxH (lo : Nat) (a : Act) (z : Sl) (a' : Act) (W' : World) : Prop := ∃ Bx, lo ≤ Bx ∧ W'.heap[Bx]? = some (.cells #[.string z.2.1, .int .i64 z.2.2.1, .pointer z.2.2.2] ST (0, 0)) ∧
  a' = { tmps := (((a.tmps.setIfInBounds 23 (.int .i64 z.1)).setIfInBounds 24 (slotV z)).setIfInBounds 6 (.int .i64 z.1)).setIfInBounds 7 (.pointer (some ⟨Bx, 0, none⟩)), defers := [] }
theorem axh_own (B lo : Nat) (a : Act) (z : Sl) (a' : Act) : OwnFrom B (fun (_ : Unit) W => AxH lo a z a' W) := by
  rintro s X Y row ⟨Bx, h1, h2, h3⟩ hg hr
  refine ⟨Bx, h1, (hg.block Bx (blk_lt h2) (fun e => ?_)).trans h2, h3⟩
  obtain ⟨-, o, ho, hc⟩ := hr Bx e.symm
  rw [h2] at ho; cases ho; cases hc
theorem rangeH {Z : List Sl} {F : Fence} {n : Nat} {P : Program} {g : Operand} {assign body : Code} {Q : Exit → Act → World → Prop} {a : Act} {w : World}
    (hro : F.round = none) (h1 : 1 ≤ n) {gf : Nat} {lb : Array Value} (hg : a.eval g = .func (.func gf) #[] lb) (hFg : F.fn gf) (eg : ∀ args w, (callFunc gf args).run P w = .ok (.enter gf args) w)
    {Kp : World → World → Prop} {S Sp : List (In Z) → Prop} {N : Nat} {w0 : World} (hseq : SeqStopsK F (n - 1) P gf lb (fun x : In Z => #[Value.int .i64 x.1.1, slotV x.1]) Kp S Sp N w0)
    (hKt : ∀ {A B C : World}, Kp A B → Kp B C → Kp A C) (hKb : ∀ (W : World) (l : Nat) (o o' : Obj), w.heap.size ≤ l → W.heap[l]? = some o → o.isCells = false → o.isWalk = false → Kp W (W.putObj l o')) (hb0 : Below w0.heap.size w0 w)
    (I : List (In Z) → World → Prop) (Ix : Code → List (In Z) → World → Prop) (hI : OwnFrom w.heap.size I) (hIx : ∀ c, OwnFrom w.heap.size (Ix c)) (h0 : I [] w)
    (hassign : ∀ (l : Nat) (pre : List (In Z)) (x : In Z) (W : World) (K : Act → World → Prop), I pre W → (∀ a' W', KeepsFrom w.heap.size W W' → Kp W W' → I pre W' → AxH w.heap.size a x.1 a' W' → K a' W') →
      assign.wpIn (F.inRound l) (n - 1 - 1) P (Exit.then K (fun _ _ _ => False)) { tmps := ((#[23, 24] : Array Tmp).zip #[Value.int .i64 x.1.1, slotV x.1]).foldl (fun t (p, v) => t.setIfInBounds p v) a.tmps, defers := [] } W)
    (hbody : ∀ (l : Nat) (pre : List (In Z)) (x : In Z) (a' : Act) (W : World), w.heap.size ≤ l → (∃ r, W.heap[l]? = some (.loop r)) → I pre W → AxH w.heap.size a x.1 a' W → pre.length < N → body.wpIn (F.inRound l) (n - 1 - 1) P (ownPostG w.heap.size Kp I Ix (pre ++ [x]) W) a' W)
    (hdone : ∀ (D : Nat) (xs : List (In Z)) (W : World), w.heap.size ≤ D → S xs → I xs W → W.heap[D]? = some (.deferred (some [])) → Q .normal { a with defers := { target := .collected D, args := #[] } :: a.defers } W)
    (hstop : ∀ (D : Nat) (c : Code) (pre : List (In Z)) (W : World), w.heap.size ≤ D → Sp pre → Ix c pre W → W.heap[D]? = some (.deferred (some [])) → c.wpIn F n P Q { a with defers := { target := .collected D, args := #[] } :: a.defers } W) :
    (Code.rangeFunc g #[23, 24] assign body).wpIn F n P Q a w :=
  wpIn_rangeFunc_ownH hro h1 hg hFg eg hseq hKt hKb hb0 (fun _ => rfl) I Ix hI hIx h0 (fun x a' W => AxH w.heap.size a x.1 a' W) (fun x a' => axh_own _ _ _ _ _) hassign hbody hdone hstop
end Go.Proofs.YtnegblckbomgdaaDoor.Ht
end
