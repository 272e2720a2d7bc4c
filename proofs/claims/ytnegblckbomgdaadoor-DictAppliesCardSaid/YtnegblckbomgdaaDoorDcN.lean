/- Any changes applied to any map: the walk. -/
import Derived.Test.YtnegblckbomgdaaDoorDcM
import Derived.Test.YtnegblckbomgdaaDoorDcLaid
import Derived.Test.YtnegblckbomgdaaDoorDcK
import Derived.Deep.DeepCutAuto
set_option linter.unusedVariables false
set_option linter.unusedSimpArgs false
namespace Go.Proofs.YtnegblckbomgdaaDoor.Ht
open Go Go.RowKit Go.Shelf Go.Proofs.YtnegblckbomgdaaDoor.Mem Go.Proofs.YtnegblckbomgdaaDoor.PA Go.Proofs.YtnegblckbomgdaaDoorW.PrintWords Go.Proofs.YtnegblckbomgdaaDoor.U64 Go.Proofs.YtnegblckbomgdaaDoor.Bs Go.Proofs.YtnegblckbomgdaaDoor

abbrev RSL : TypeId := 83
abbrev APT : TypeId := 91
theorem info_rch : (Tryd.prog.info? RCT).map (fun i => (i.zero, i.size, i.bytes)) = some (some (.agg #[.string ⟨#[]⟩, .bool false, .bool false, .int .i64 0, .int .i64 0]), 5, 40) := by kernel_rfl
theorem apart_g {W : World} {base base' n m sz sz' : Nat} {e e' : TypeId} {v v' : Value} {xs ys : List Value} (hne : e ≠ e') (h : W.ownsRow base e sz v n xs) (k : W.ownsRow base' e' sz' v' m ys) : v'.ownBlock = none ∨ v'.ownBlock ≠ v.ownBlock := by
  rcases k.2 with ⟨rfl, _⟩ | ⟨g, cap, cur, rfl, _, hg, _⟩
  · exact Or.inl rfl
  · right
    rcases h.2 with ⟨rfl, _⟩ | ⟨g', cap', cur', rfl, _, hg', _⟩
    · intro e; cases e
    · intro e
      have e2 : g = g' := by simpa [Value.ownBlock] using e
      subst e2
      rw [hg] at hg'
      injection hg' with h1
      injection h1 with _ h2 _
      exact hne h2.symm
theorem cellsv_of_row {W : World} {base : Nat} {e : TypeId} {v : Value} {D : List Ch} (h : W.ownsRow base e 5 v D.length (chs D)) : CellsV W v D := by
  have h0 := h
  rcases h.2 with ⟨rfl, h1⟩ | ⟨g, cap, cur, rfl, hb, hg, hn, hm, hs, ht⟩
  · obtain rfl := List.eq_nil_of_length_eq_zero h1
    exact ⟨none, 0, rfl, fun hp => absurd hp (by simp)⟩
  · refine ⟨_, cap, rfl, fun hp => ⟨_, rfl, fun j o ho => ?_⟩⟩
    have hc : ∀ (t : Nat) (u : Value), (chc o)[t]? = some u → W.cell? ⟨g, j * 5 + t, none⟩ = some u := fun t u hu => by
      have := h0.cells rfl _ _ (chs_get D j o ho t u hu)
      rwa [add_head] at this
    have h1 := hc 0 _ rfl
    rw [add_head]
    exact ⟨h1, hc 1 _ rfl, hc 2 _ rfl, hc 3 _ rfl, hc 4 _ rfl⟩
theorem CellsV.form {w : World} {v : Value} {D : List Ch} (h : CellsV w v D) : ∃ A c, v = .slice A D.length c := by
  obtain ⟨A, c, h1, -⟩ := h
  exact ⟨A, c, h1⟩
theorem appL_len (D : List Ch) : ∀ {L : List Pr}, Srt L → (appL L D).length ≤ L.length + D.length := by
  induction D with
  | nil => intro L h; exact Nat.le_refl _
  | cons d D ih =>
    intro L h
    have h1 := ih (app1_srt h d)
    have h2 := app1_len h d
    show (appL (app1 L d) D).length ≤ _
    simp only [List.length_cons]; omega
def ApsI (V : World) (D : List Ch) (N k : Nat) (v9 v10 v34 : Value) (wr : World) (_u : Unit) : Prop :=
  ∃ i : Nat, v34 = .int .i64 (i : Int) ∧ i + k = N ∧ (∀ d ∈ D.take i, d.f0.size ≤ 200) ∧ wr.ownsRow V.heap.size CHT 5 v9 i (chs (D.take i)) ∧ wr.ownsRow V.heap.size RCT 5 v10 i (chs (D.take i)) ∧ Below V.heap.size V wr

set_option maxRecDepth 100000 in
set_option maxHeartbeats 8000000 in
theorem applies_in (c : Cf) (v : Value) (os : List S2) (va : Value) (D : List Ch) (W : World) (hT : Tab W) (hD : CellsV W va D) (hdl : D.length ≤ 80) (hO : PairsV W v os) (hl : os.length ≤ 80) (hk : ∀ o ∈ os, o.f0.size ≤ 200)
    (hf : ∀ V, Below W.heap.size W V → Calls Tryd.prog 37 #[v] V (Ret (fun u _ => u = .bool true) V)) :
    Calls Tryd.prog 13 #[confV c, v, va] W (Tru W) := by
  obtain ⟨As, cs, rfl, -⟩ := id hO
  obtain ⟨Ds, ds, rfl, -⟩ := id hD
  obtain ⟨y, hy⟩ : ∃ y, U c.1 = y := ⟨_, rfl⟩
  obtain ⟨b, hb⟩ : ∃ b, c.2 = b := ⟨_, rfl⟩
  have HT := Lib.hid hT; have HF := Lib.hid hf
  have HLV := Lib.hid (fun V hT => livep_c V hT)
  have HMD := Lib.hid (fun V (hV : Below W.heap.size W V) => (show Calls Tryd.prog 38 #[.agg #[.int .u64 y, .int .i64 b], .slice As os.length cs] V (Ret (fun u w' => Made c y b 80 u w') V) from made_w c _ os y b hy hb V (hO.below hV) hl hk))
  show Calls Tryd.prog 13 #[.agg #[.int .u64 (U c.1), .int .i64 c.2], .slice As os.length cs, .slice Ds D.length ds] W _
  rw [hy, hb]
  obtain ⟨N, hN⟩ : ∃ N, N = D.length := ⟨_, rfl⟩
  rw [← hN] at hD hdl ⊢
  have hNI : ¬ (N : Int) > 80 := by omega
  have hNI2 : (N : Int) ≤ 80 := by omega
  have HN := Lib.hid hN; have HD := Lib.hid hD; have HY := Lib.hid hy; have HBE := Lib.hid hb
  clear hy hb hO hl hk hT hf hD hN
  generalize os.length = T at HF HMD ⊢
  have BC0 := blk_new W (.cells #[.int .u64 y, .int .i64 b] CT)
  have hB0 := (Below.refl W.heap.size W).alloc (Nat.le_refl _) (.cells #[.int .u64 y, .int .i64 b] CT)
  have HB0 := Lib.hid hB0; have HC0 := Lib.hid BC0
  clear hB0 BC0
  go_enter Tryd.func13, Tryd.ntmps13
  go_upto_region 4 with (first
    | (go_at_call 36; ((with_reducible refine (HLV.out _ (HT.out.below HB0.out)).mono ?_); rintro e w1 ⟨v, rfl, rfl, hb1⟩; have HB1 := Lib.hid (below_trans HB0.out hb1); have HC1 := Lib.hid (blk_below HC0.out hb1); clear hb1))
    | (go_at_call 37; ((with_reducible refine (HF.out _ HB1.out).mono ?_); rintro e w2 ⟨v, rfl, rfl, hb2⟩; have HB2 := Lib.hid (below_trans HB1.out hb2); obtain ⟨⟨a0, a1⟩, -⟩ := box2 (blk_below HC1.out hb2); have HC2 := Lib.hid (blk_below HC1.out hb2); clear hb2))
    | (go_at_call 38; ((with_reducible refine (HMD.out _ HB2.out).mono ?_); rintro e w3 ⟨v, rfl, ⟨L, n, p, A1, n1, c1, A2, n2, c2, rfl, hL, hm, hr⟩, hb3⟩; have HB3 := Lib.hid (below_trans HB2.out hb3); have HC3 := Lib.hid (blk_below HC2.out hb3); have HM3 := Lib.hid hm; have HR3 := Lib.hid hr; clear hb3 hm hr))
    | fail)
  have HBM := Lib.hid (blk_alloc (blk_new w3 (.cells #[.int .u64 y, .int .i64 b, .int .i64 n, .pointer p] MT)) (.cells #[.slice A1 n1 c1, .slice A2 n2 c2] RT)); have HBR := Lib.hid (heap_k1 w3 (.cells #[.int .u64 y, .int .i64 b, .int .i64 n, .pointer p] MT) (.cells #[.slice A1 n1 c1, .slice A2 n2 c2] RT))
  have hal := ((Below.refl w3.heap.size w3).alloc (Nat.le_refl _) (.cells #[.int .u64 y, .int .i64 b, .int .i64 n, .pointer p] MT)).alloc (by simp) (.cells #[.slice A1 n1 c1, .slice A2 n2 c2] RT)
  have HM := Lib.hid (HM3.out.below hal); have HR := Lib.hid (HR3.out.below hal); have HW := Lib.hid (below_trans HB3.out hal); have HCV := Lib.hid (blk_below HC3.out hal)
  clear HC2 HC3 HM3 HR3 HB3 HB2 HB1 HC1 HC0 HB0 hal a0 a1 HMD HF HLV
  generalize (w3.alloc (.cells #[.int .u64 y, .int .i64 b, .int .i64 n, .pointer p] MT)).alloc (.cells #[.slice A1 n1 c1, .slice A2 n2 c2] RT) = V at *
  generalize w3.heap.size = g at *
  have HV := Lib.hid (Below.refl V.heap.size V)
  have hL2 : L.length ≤ 1000 := by omega
  have hL3 : L.length ≤ 1000000 := by omega
  have hT1 := HT.out.below HW.out
  obtain ⟨-, -, -, -, -, -, hS, hSm⟩ := mform HM.out
  obtain ⟨i0, hi, hz0, hz1, hz2⟩ := info_parts info_ch
  obtain ⟨i1, hj, hy0, hy1, hy2⟩ := info_parts info_rch
  have HS := Lib.hid hS; have HSM := Lib.hid hSm
  clear hS hSm hT1 hL3
  go_wp2_with fail
  go_loopg [9, 10, 34] N (fun k v9 v10 v34 wr => Aside (ApsI V D N k v9 v10 v34 wr ()))
  case atStart =>
    show ApsI _ _ _ _ _ _ _ _ _
    exact ⟨0, rfl, by omega, by simp, World.ownsRow_nil _ _ _ _, World.ownsRow_nil _ _ _ _, Below.refl _ _⟩
  case round =>
    obtain ⟨i, rfl, hik, hks, hr1, hr2, hB⟩ := hrel.out
    clear hrel
    by_cases hlt : i < N
    · have hltI : (i : Int) < (N : Int) := by omega
      obtain ⟨gk, rfl⟩ : ∃ g, gk = g + 1 := ⟨gk - 1, by omega⟩
      obtain ⟨d, hd⟩ : ∃ d, D[i]? = some d := ⟨_, List.getElem?_eq_getElem (by rw [← HN.out]; exact hlt)⟩
      have hta : D.take (i + 1) = D.take i ++ [d] := by rw [List.take_add_one, hd]; rfl
      have htc : chs (D.take (i + 1)) = chs (D.take i) ++ chc d := by rw [hta, chs_snoc]
      obtain ⟨ad, rfl, x0, x1, x2, x3, x4⟩ := HD.out.at i d hd
      have hWB := below_trans HW.out hB
      have x0 := cell_below x0 hWB
      have x1 := cell_below x1 hWB
      have x2 := cell_below x2 hWB
      have x3 := cell_below x3 hWB
      have x4 := cell_below x4 hWB
      have HTA := Lib.hid hta; have HTC := Lib.hid htc; have HKS := Lib.hid hks; have HR1 := Lib.hid hr1; have HR2 := Lib.hid hr2; have HB := Lib.hid hB; have HWB := Lib.hid hWB
      obtain ⟨k, had, has, was, is⟩ := d
      dsimp only at x0 x1 x2 x3 x4
      have hbx := blk_new wr (.cells #[.string k, .bool had, .bool has, .int .i64 was, .int .i64 is] APT)
      have z0 : (wr.alloc (.cells #[.string k, .bool had, .bool has, .int .i64 was, .int .i64 is] APT)).cell? ⟨wr.heap.size, 0, none⟩ = some (.string k) := blk_cell hbx 0
      have z1 : (wr.alloc (.cells #[.string k, .bool had, .bool has, .int .i64 was, .int .i64 is] APT)).cell? ⟨wr.heap.size, 1, none⟩ = some (.bool had) := blk_cell hbx 1
      have z2 : (wr.alloc (.cells #[.string k, .bool had, .bool has, .int .i64 was, .int .i64 is] APT)).cell? ⟨wr.heap.size, 2, none⟩ = some (.bool has) := blk_cell hbx 2
      have z3 : (wr.alloc (.cells #[.string k, .bool had, .bool has, .int .i64 was, .int .i64 is] APT)).cell? ⟨wr.heap.size, 3, none⟩ = some (.int .i64 was) := blk_cell hbx 3
      have z4 : (wr.alloc (.cells #[.string k, .bool had, .bool has, .int .i64 was, .int .i64 is] APT)).cell? ⟨wr.heap.size, 4, none⟩ = some (.int .i64 is) := blk_cell hbx 4
      have hm63 : i + 1 ≤ maxLen := by unfold maxLen; omega
      have hbytes : (i + 1) * 40 ≤ 140737488355328 := by omega
      clear hta htc hks hr1 hr2 hB hWB hd
      by_cases hkz : (k.size : Int) > 200
      · have HEND := Lib.hid (HWB.out.alloc HWB.out.size (.cells #[.string k, .bool had, .bool has, .int .i64 was, .int .i64 is] APT))
        go_wp2_with fail
        go_returns
        exact ⟨rfl, HEND.out⟩
      · have HKZ := Lib.hid hkz
        go_wp2_with (at_builtin; refine wpList_append_own _ rfl _ _ CSL rfl V.heap.size CHT i0 _ 5 40 Tryd.underlying78 hi hz0 hz1 hz2 rfl (by decide) _ _ _ rfl ((HR1.out.alloc _).alloc _) ⟨wr.heap.size + 1, 0, none⟩ 1 1 [.string k, .bool had, .bool has, .int .i64 was, .int .i64 is] rfl ?qa1 ?qa2 ?qa3 ?qa4 ?qa5 ?qa6 ?_)
        case qa3 => exact ⟨rfl, rfl, rfl, rfl, rfl⟩
        case qa6 => have := HB.out.size; omega
        intro v' w1 hown1 hgrow1 hnil1
        have hA1 := ((HB.out.alloc HB.out.size (.cells #[.string k, .bool had, .bool has, .int .i64 was, .int .i64 is] APT)).alloc (by simp; exact Nat.le_succ_of_le HB.out.size) (.cells #[.string k, .bool had, .bool has, .int .i64 was, .int .i64 is] CHT))
        have HB1 := Lib.hid (below_grown hA1 hgrow1 ((HR1.out.alloc _).alloc _) (Nat.le_refl _))
        have hbx1 : w1.heap[wr.heap.size]? = some (.cells #[.string k, .bool had, .bool has, .int .i64 was, .int .i64 is] APT (0, 0)) := (hgrow1.block _ (by simp; omega) (fun e => by have := (HR1.out.lt _ e.symm).2; omega)).trans (blk_alloc hbx (.cells #[.string k, .bool had, .bool has, .int .i64 was, .int .i64 is] CHT))
        have HQ2 := Lib.hid (((HR2.out.alloc (.cells #[.string k, .bool had, .bool has, .int .i64 was, .int .i64 is] APT)).alloc (.cells #[.string k, .bool had, .bool has, .int .i64 was, .int .i64 is] CHT)).kept hgrow1 (apart_g (by decide) HR1.out HR2.out))
        have HO1 := Lib.hid hown1
        obtain ⟨g1, cap1, rfl⟩ := ownsRow_succ hown1
        have z0 : w1.cell? ⟨wr.heap.size, 0, none⟩ = some (.string k) := blk_cell hbx1 0
        have z1 : w1.cell? ⟨wr.heap.size, 1, none⟩ = some (.bool had) := blk_cell hbx1 1
        have z2 : w1.cell? ⟨wr.heap.size, 2, none⟩ = some (.bool has) := blk_cell hbx1 2
        have z3 : w1.cell? ⟨wr.heap.size, 3, none⟩ = some (.int .i64 was) := blk_cell hbx1 3
        have z4 : w1.cell? ⟨wr.heap.size, 4, none⟩ = some (.int .i64 is) := blk_cell hbx1 4
        clear hown1 hgrow1 hnil1 hA1 hbx1 hbx
        go_wp2_with (at_builtin; refine wpList_append_own _ rfl _ _ RSL rfl V.heap.size RCT i1 _ 5 40 Tryd.underlying83 hj hy0 hy1 hy2 rfl (by decide) _ _ _ rfl (HQ2.out.alloc _) ⟨w1.heap.size, 0, none⟩ 1 1 [.string k, .bool had, .bool has, .int .i64 was, .int .i64 is] rfl ?qb1 ?qb2 ?qb3 ?qb4 ?qb5 ?qb6 ?_)
        case qb1 => rfl
        case qb2 =>
          intro j u hj
          rw [add_head, blk_cell (blk_new w1 (.cells #[.string k, .bool had, .bool has, .int .i64 was, .int .i64 is] RCT))]
          simpa using hj
        case qb3 => intro u hu; simp at hu; rcases hu with rfl | rfl | rfl | rfl | rfl <;> rfl
        case qb4 => exact hm63
        case qb5 => exact hbytes
        case qb6 => simp; exact Nat.le_succ_of_le HB1.out.size
        intro v2 w2 hown2 hgrow2 hnil2
        have HB2 := Lib.hid (below_grown (HB1.out.alloc HB1.out.size (.cells #[.string k, .bool had, .bool has, .int .i64 was, .int .i64 is] RCT)) hgrow2 (HQ2.out.alloc _) (Nat.le_refl _))
        have HO2 := Lib.hid hown2
        have HP1 := Lib.hid ((HO1.out.alloc (.cells #[.string k, .bool had, .bool has, .int .i64 was, .int .i64 is] RCT)).kept hgrow2 (apart_g (by decide) HQ2.out HO1.out))
        obtain ⟨g2, cap2, rfl⟩ := ownsRow_succ hown2
        clear hown2 hgrow2 hnil2
        go_wp2_with fail
        go_roundg gk
        case measure => omega
        case rel =>
          show ApsI _ _ _ _ _ _ _ _ _
          exact ⟨i + 1, by first | rfl | (push_cast; rfl), by omega, by rw [HTA.out]; intro x hx; rcases List.mem_append.1 hx with hx | hx; exact HKS.out x hx; have := HKZ.out; simp at hx; subst hx; dsimp only; omega, by rw [HTC.out]; exact HP1.out, by rw [HTC.out]; exact HO2.out, HB2.out⟩
    · have htk : D.take i = D := List.take_of_length_le (by have := HN.out; omega)
      have hiN : i = D.length := by have := HN.out; omega
      rw [htk] at hr1 hr2 hks
      rw [hiN] at hr1 hr2
      have hch := chv_of_row hr1
      have hce := cellsv_of_row hr2
      obtain ⟨A9, c9, he⟩ := hch.form
      subst he
      obtain ⟨A10, c10, he⟩ := hce.form
      subst he
      rw [← HN.out] at hch hce ⊢
      have hks2 : ∀ d ∈ D, d.f0.size ≤ 1000000 := fun d hd => Nat.le_trans (hks d hd) (by decide)
      have HTW := Lib.hid (HT.out.below HW.out)
      have HAP := Lib.hid fun V' (hV : Below wr.heap.size wr V') => apply_w c _ L D y b n p A9 c9 N V' HY.out HBE.out (HM.out.below (below_trans hB hV)) (hch.below hV) HN.out (by omega) hks2 (HTW.out.below (below_trans hB hV))
      have HRP := Lib.hid fun V' (hV : Below wr.heap.size wr V') => rapply_w _ L D A1 A2 n1 n2 c1 c2 A10 c10 N V' (HR.out.below (below_trans hB hV)) (hce.below hV) HN.out HS.out HSM.out (by omega) hks2
      have HS1 := Lib.hid fun (n' : Int) (p' : Option Addr) (u : Value) V' (hV : Below wr.heap.size wr V') (hm : MapV c (fun _ => True) V' (.agg #[.int .u64 y, .int .i64 b, .int .i64 n', .pointer p']) (appL L D)) (hr : RefV (fun _ => True) V' u (appL L D)) (hln : (appL L D).length ≤ 1000) => sames_c c _ _ y b n' p' u _ V' hm hr hln (HTW.out.below (below_trans hB hV))
      have HS2 := Lib.hid fun V' (hV : Below wr.heap.size wr V') => sames_c c _ _ y b n p _ L V' (HM.out.below (below_trans hB hV)) (HR.out.below (below_trans hB hV)) hL2 (HTW.out.below (below_trans hB hV))
      have hal : ∀ E : List Ch, (appL L E).length ≤ L.length + E.length := fun E => appL_len E HS.out
      have HLN := Lib.hid (show (appL L D).length ≤ 1000 by have := hal D; omega)
      have HBB := Lib.hid hB
      have HM1 := Lib.hid (blk_below HBM.out hB); have HM2 := Lib.hid (blk_below HBR.out hB); have HM3 := Lib.hid (blk_below HCV.out hB)
      obtain ⟨⟨a0, a1, a2, a3⟩, -⟩ := box4 HM1.out
      obtain ⟨⟨r0, r1⟩, -⟩ := box2 HM2.out
      obtain ⟨⟨q0, q1⟩, -⟩ := box2 HM3.out
      clear hr1 hr2 hks hch hce hks2 hB htk hal hL hL2 hiN
      go_upto_region 14 with fail
      go_region_held3 (fun w' => (w'.cell? ⟨g, 0, none⟩ = some (.int .u64 y) ∧ w'.cell? ⟨g, 1, none⟩ = some (.int .i64 b) ∧ w'.cell? ⟨g, 2, none⟩ = some (.int .i64 n) ∧ w'.cell? ⟨g, 3, none⟩ = some (.pointer p)) ∧ (w'.cell? ⟨g + 1, 0, none⟩ = some (.slice A1 n1 c1) ∧ w'.cell? ⟨g + 1, 1, none⟩ = some (.slice A2 n2 c2)) ∧ w'.cell? ⟨W.heap.size, 0, none⟩ = some (.int .u64 y) ∧ w'.cell? ⟨W.heap.size, 1, none⟩ = some (.int .i64 b))
        ((refine ⟨⟨?_, ?_, ?_, ?_⟩, ⟨?_, ?_⟩, ?_, ?_⟩ <;> first | (with_reducible assumption) | (with_reducible exact cell_below a0 (by assumption)) | (with_reducible exact cell_below a1 (by assumption)) | (with_reducible exact cell_below a2 (by assumption)) | (with_reducible exact cell_below a3 (by assumption)) | (with_reducible exact cell_below r0 (by assumption)) | (with_reducible exact cell_below r1 (by assumption)) | (with_reducible exact cell_below q0 (by assumption)) | (with_reducible exact cell_below q1 (by assumption)) | (go_keep; done)))
        (first
          | (go_at_call 58; (with_reducible refine (HAP.out _ ((Below.refl _ _).drew)).mono ?_); rintro e u1 ⟨v, rfl, ⟨n5, p5, rfl, hm1⟩, hk1⟩; have hb1 := below_trans (w1 := World.drew _) (Below.refl _ _).drew hk1)
          | (go_at_call 59; (with_reducible refine (HRP.out _ hb1).mono ?_); rintro e u2 ⟨v, rfl, ⟨B1, m1, d1, B2, m2, d2, rfl, hr2⟩, hk2⟩; have hb2 := below_trans hb1 hk2; have hm2 := MapV.below hm1 hk2)
          | (go_at_call 57; (with_reducible refine (HS1.out _ _ _ _ hb2 hm2 hr2 HLN.out).mono ?_); rintro e u3 ⟨v, rfl, rfl, hk3⟩; have hb3 := below_trans hb2 hk3)
          | (go_at_call 57; (with_reducible refine (HS2.out _ hb3).mono ?_); rintro e u4 ⟨v, rfl, rfl, hk4⟩; have hb4 := below_trans hb3 hk4)
          | fail)
      have HEND := Lib.hid (below_trans HW.out (below_trans HBB.out hb4))
      go_wp2_with fail
      go_returns
      exact ⟨rfl, HEND.out⟩

set_option maxHeartbeats 4000000 in
theorem applies_out (c : Cf) (v : Value) (T : Nat) (A : Option Addr) (cs : Nat) (E : Option Addr) (M es : Nat) (bf : Bool) (W : World) (hv : v = .slice A T cs) (hT : Tab W) (hn : bf = false ∨ (bf = true ∧ (M : Int) > 80))
    (hf : ∀ V, Below W.heap.size W V → Calls Tryd.prog 37 #[v] V (Ret (fun u _ => u = .bool bf) V)) :
    Calls Tryd.prog 13 #[confV c, v, .slice E M es] W (Tru W) := by
  subst hv
  have HT := Lib.hid hT; have HF := Lib.hid hf
  have HLV := Lib.hid (fun V hT => livep_c V hT)
  show Calls Tryd.prog 13 #[.agg #[.int .u64 (U c.1), .int .i64 c.2], .slice A T cs, .slice E M es] W _
  generalize U c.1 = y
  generalize c.2 = b
  clear hT hf
  rcases hn with rfl | ⟨rfl, hn⟩
  · go_enter Tryd.func13, Tryd.ntmps13
    have hB0 := (Below.refl W.heap.size W).alloc (Nat.le_refl _) (.cells #[.int .u64 y, .int .i64 b] CT)
    go_wp2_with (first
      | (go_at_call 37; ((with_reducible refine (HF.out _ HB1.out).mono ?_); rintro e w2 ⟨v, rfl, rfl, hb2⟩; have HB2 := Lib.hid (below_trans HB1.out hb2); clear hb2))
      | (go_at_call 36; ((with_reducible refine (HLV.out _ (HT.out.below HB2.out)).mono ?_); rintro e w3 ⟨v, rfl, rfl, hb3⟩; have HB3 := Lib.hid (below_trans HB2.out hb3); clear hb3))
      | (go_at_call 36; ((with_reducible refine (HLV.out _ (HT.out.below hB0)).mono ?_); rintro e w1 ⟨v, rfl, rfl, hb1⟩; have HB1 := Lib.hid (below_trans hB0 hb1); clear hb1))
      | fail)
    go_returns
    exact ⟨rfl, HB3.out⟩
  · go_enter Tryd.func13, Tryd.ntmps13
    have hB0 := (Below.refl W.heap.size W).alloc (Nat.le_refl _) (.cells #[.int .u64 y, .int .i64 b] CT)
    go_wp2_with (first
      | (go_at_call 37; ((with_reducible refine (HF.out _ HB1.out).mono ?_); rintro e w2 ⟨v, rfl, rfl, hb2⟩; have HB2 := Lib.hid (below_trans HB1.out hb2); clear hb2))
      | (go_at_call 36; ((with_reducible refine (HLV.out _ (HT.out.below HB2.out)).mono ?_); rintro e w3 ⟨v, rfl, rfl, hb3⟩; have HB3 := Lib.hid (below_trans HB2.out hb3); clear hb3))
      | (go_at_call 36; ((with_reducible refine (HLV.out _ (HT.out.below hB0)).mono ?_); rintro e w1 ⟨v, rfl, rfl, hb1⟩; have HB1 := Lib.hid (below_trans hB0 hb1); clear hb1))
      | fail)
    go_returns
    exact ⟨rfl, HB3.out⟩

/-- ANY CHANGES APPLIED TO ANY MAP. -/
theorem applies_c (c : Cf) (v : Value) (os : List S2) (va : Value) (D : List Ch) (W : World) (hT : Tab W) (hO : PairsV W v os) (hD : CellsV W va D) : Calls Tryd.prog 13 #[confV c, v, va] W (Tru W) := by
  obtain ⟨b, hb, hf⟩ := fewp_c v os W hO
  obtain ⟨A, cs, hv, -⟩ := id hO
  obtain ⟨E, es, he⟩ := hD.form
  cases b with
  | false => subst he; exact applies_out c v os.length A cs E _ es false W hv hT (Or.inl rfl) hf
  | true =>
    by_cases hd : D.length ≤ 80
    · exact applies_in c v os va D W hT hD hd hO (hb rfl).1 (hb rfl).2 hf
    · subst he; exact applies_out c v os.length A cs E _ es true W hv hT (Or.inr ⟨rfl, by omega⟩) hf
end Go.Proofs.YtnegblckbomgdaaDoor.Ht
