/- Laws of the maps' code and of the words it uses, gathered out of the printed and own texts; no conditions. -/
import Derived.Test.YtnegblckbomgdaaDoorDj3
import Derived.Deep.DeepCutAuto
set_option linter.unusedVariables false
set_option linter.unusedSimpArgs false
namespace Go.Proofs.YtnegblckbomgdaaDoor.Ht
open Go Go.RowKit Go.Shelf Go.Proofs.YtnegblckbomgdaaDoor.Mem Go.Proofs.YtnegblckbomgdaaDoor.PA Go.Proofs.YtnegblckbomgdaaDoorW.PrintWords Go.Proofs.YtnegblckbomgdaaDoor.U64 Go.Proofs.YtnegblckbomgdaaDoor.Bs Go.Proofs.YtnegblckbomgdaaDoor
theorem refv_parts {K : Nat → Prop} {w : World} {A1 A2 : Option Addr} {n1 c1 n2 c2 : Nat} {L : List Pr} (h : RefV K w (.agg #[.slice A1 n1 c1, .slice A2 n2 c2]) L) : n1 = L.length ∧ n2 = L.length ∧ SlV K w (.slice A1 n1 c1) (ksV L) ∧ SlV K w (.slice A2 n2 c2) (xsV L) := by
  obtain ⟨s, t, e, h1, h2⟩ := h
  simp only [Value.agg.injEq, Array.mk.injEq, List.cons.injEq, and_true] at e
  obtain ⟨rfl, rfl⟩ := e
  refine ⟨?_, ?_, h1, h2⟩
  · obtain ⟨A, c, e⟩ := SlV.form' h1
    injection e with e1 e2 e3
    rw [e2, ksV_length]
  · obtain ⟨A, c, e⟩ := SlV.form' h2
    injection e with e1 e2 e3
    rw [e2, xsV_length]
theorem uniL_len (M : List Pr) : ∀ {L : List Pr}, Srt L → (uniL L M).length ≤ L.length + M.length := by
  induction M with
  | nil => intro L h; exact Nat.le_refl _
  | cons e M ih =>
    intro L h
    have h1 := ih (uni1_srt h e)
    have h2 := uni1_len h e
    show (uniL (uni1 L e) M).length ≤ _
    simp only [List.length_cons]; omega
theorem beq_f (b : Bool) : (!b) = (b == false) := by cases b <;> rfl
theorem beq_t (b : Bool) : b = (b == true) := by cases b <;> rfl
set_option maxRecDepth 100000 in
set_option maxHeartbeats 8000000 in
theorem joins_in (c d : Cf) (va : Value) (oa : List S2) (vb : Value) (ob : List S2) (lo hi : ByteArray) (hlo : lo.size ≤ 200) (hhi : hi.size ≤ 200) (W : World) (hT : Tab W) (hA : PairsV W va oa) (hB : PairsV W vb ob) (hl : oa.length ≤ 80) (hk : ∀ o ∈ oa, o.f0.size ≤ 200) (hl' : ob.length ≤ 80) (hk' : ∀ o ∈ ob, o.f0.size ≤ 200)
    (hfa : ∀ V, Below W.heap.size W V → Calls Tryd.prog 37 #[va] V (Ret (fun u _ => u = .bool true) V)) (hfb : ∀ V, Below W.heap.size W V → Calls Tryd.prog 37 #[vb] V (Ret (fun u _ => u = .bool true) V)) :
    Calls Tryd.prog 15 #[confV c, confV d, va, vb, .string lo, .string hi] W (Tru W) := by
  obtain ⟨As, cs, rfl, -⟩ := id hA
  obtain ⟨Bs, ds, rfl, -⟩ := id hB
  obtain ⟨y, hy⟩ : ∃ y, U c.1 = y := ⟨_, rfl⟩
  obtain ⟨b, hb⟩ : ∃ b, c.2 = b := ⟨_, rfl⟩
  obtain ⟨y', hy'⟩ : ∃ y, U d.1 = y := ⟨_, rfl⟩
  obtain ⟨b', hb'⟩ : ∃ b, d.2 = b := ⟨_, rfl⟩
  have HT := Lib.hid hT; have HFA := Lib.hid hfa; have HFB := Lib.hid hfb; have HY := Lib.hid hy; have HBE := Lib.hid hb; have HY2 := Lib.hid hy'; have HBE2 := Lib.hid hb'
  have HLV := Lib.hid (fun V hT => livep_c V hT)
  have HMD := Lib.hid (fun V (hV : Below W.heap.size W V) => (show Calls Tryd.prog 38 #[.agg #[.int .u64 y, .int .i64 b], .slice As oa.length cs] V (Ret (fun u w' => Made c y b 80 u w') V) from made_w c _ oa y b hy hb V (hA.below hV) hl hk))
  have HME := Lib.hid (fun V (hV : Below W.heap.size W V) => (show Calls Tryd.prog 38 #[.agg #[.int .u64 y', .int .i64 b'], .slice Bs ob.length ds] V (Ret (fun u w' => Made d y' b' 80 u w') V) from made_w d _ ob y' b' hy' hb' V (hB.below hV) hl' hk'))
  show Calls Tryd.prog 15 #[.agg #[.int .u64 (U c.1), .int .i64 c.2], .agg #[.int .u64 (U d.1), .int .i64 d.2], .slice As oa.length cs, .slice Bs ob.length ds, .string lo, .string hi] W _
  rw [hy, hb, hy', hb']
  have hloI : ¬ (lo.size : Int) > 200 := by omega
  have hhiI : ¬ (hi.size : Int) > 200 := by omega
  clear hy hb hy' hb' hA hB hl hk hl' hk' hT hfa hfb hlo hhi
  generalize oa.length = T at HFA HMD ⊢
  generalize ob.length = T' at HFB HME ⊢
  have HB0 := Lib.hid (((Below.refl W.heap.size W).alloc (Nat.le_refl _) (.cells #[.int .u64 y, .int .i64 b] CT)).alloc (by simp) (.cells #[.int .u64 y', .int .i64 b'] CT))
  have HC0 := Lib.hid (blk_alloc (blk_new W (.cells #[.int .u64 y, .int .i64 b] CT)) (.cells #[.int .u64 y', .int .i64 b'] CT)); have HD0 := Lib.hid (heap_k1 W (.cells #[.int .u64 y, .int .i64 b] CT) (.cells #[.int .u64 y', .int .i64 b'] CT))
  go_enter Tryd.func15, Tryd.ntmps15
  go_upto_region 4 with (first
    | (go_at_call 36; ((with_reducible refine (HLV.out _ (HT.out.below HB0.out)).mono ?_); rintro e w1 ⟨v, rfl, rfl, hb1⟩; have HB1 := Lib.hid (below_trans HB0.out hb1); have HC1 := Lib.hid (blk_below HC0.out hb1); have HD1 := Lib.hid (blk_below HD0.out hb1); clear hb1))
    | (go_at_call 37; ((with_reducible refine (HFB.out _ HB2.out).mono ?_); rintro e w2b ⟨v, rfl, rfl, hb2⟩; have HB3 := Lib.hid (below_trans HB2.out hb2); have HD3 := Lib.hid (blk_below HD2.out hb2); have HC3 := Lib.hid (blk_below HC2.out hb2); obtain ⟨⟨a0, a1⟩, -⟩ := box2 (blk_below HC2.out hb2); clear hb2))
    | (go_at_call 37; ((with_reducible refine (HFA.out _ HB1.out).mono ?_); rintro e w2 ⟨v, rfl, rfl, hb2⟩; have HB2 := Lib.hid (below_trans HB1.out hb2); have HC2 := Lib.hid (blk_below HC1.out hb2); have HD2 := Lib.hid (blk_below HD1.out hb2); clear hb2))
    | (go_at_call 38; ((with_reducible refine (HMD.out _ HB3.out).mono ?_); rintro e w3 ⟨v, rfl, ⟨LA, n, p, A1, n1, c1, A2, n2, c2, rfl, hLA, hm, hr⟩, hb3⟩; have HB4 := Lib.hid (below_trans HB3.out hb3); have HD4 := Lib.hid (blk_below HD3.out hb3); have HC4 := Lib.hid (blk_below HC3.out hb3); have HM3 := Lib.hid hm; have HR3 := Lib.hid hr; clear hb3 hm hr))
    | fail)
  have hal := ((Below.refl w3.heap.size w3).alloc (Nat.le_refl _) (.cells #[.int .u64 y, .int .i64 b, .int .i64 n, .pointer p] MT)).alloc (by simp) (.cells #[.slice A1 n1 c1, .slice A2 n2 c2] RT)
  have HBM := Lib.hid (blk_alloc (blk_new w3 (.cells #[.int .u64 y, .int .i64 b, .int .i64 n, .pointer p] MT)) (.cells #[.slice A1 n1 c1, .slice A2 n2 c2] RT)); have HBR := Lib.hid (heap_k1 w3 (.cells #[.int .u64 y, .int .i64 b, .int .i64 n, .pointer p] MT) (.cells #[.slice A1 n1 c1, .slice A2 n2 c2] RT))
  have HM := Lib.hid (HM3.out.below hal); have HR := Lib.hid (HR3.out.below hal); have HW := Lib.hid (below_trans HB4.out hal); have HDV := Lib.hid (blk_below HD4.out hal); have HCV := Lib.hid (blk_below HC4.out hal)
  clear hal HC3 HC4 HM3 HR3 HB4 HD4 HB3 HD3 HB2 HC2 HD2 HB1 HC1 HD1 HB0 HC0 HD0 a0 a1 HMD HFA HFB HLV
  generalize (w3.alloc (.cells #[.int .u64 y, .int .i64 b, .int .i64 n, .pointer p] MT)).alloc (.cells #[.slice A1 n1 c1, .slice A2 n2 c2] RT) = V1 at *
  generalize w3.heap.size = g at *
  obtain ⟨⟨a0, a1⟩, -⟩ := box2 HDV.out
  go_upto_region 5 with (first
    | (go_at_call 38; ((with_reducible refine (HME.out _ HW.out).mono ?_); rintro e w4 ⟨v, rfl, ⟨LB, n', p', B1, m1, d1, B2, m2, d2, rfl, hLB, hm, hr⟩, hb3⟩; have HW4 := Lib.hid (below_trans HW.out hb3); have HM4 := Lib.hid (HM.out.below hb3); have HR4 := Lib.hid (HR.out.below hb3); have HC5 := Lib.hid (blk_below HCV.out hb3); have HD5 := Lib.hid (blk_below HDV.out hb3); have HBM4 := Lib.hid (blk_below HBM.out hb3); have HBR4 := Lib.hid (blk_below HBR.out hb3); have HE4 := Lib.hid hm; have HQ4 := Lib.hid hr; clear hb3 hm hr))
    | fail)
  have hal := ((Below.refl w4.heap.size w4).alloc (Nat.le_refl _) (.cells #[.int .u64 y', .int .i64 b', .int .i64 n', .pointer p'] MT)).alloc (by simp) (.cells #[.slice B1 m1 d1, .slice B2 m2 d2] RT)
  have HBMA := Lib.hid (blk_below HBM4.out hal); have HBRA := Lib.hid (blk_below HBR4.out hal); have HBMB := Lib.hid (blk_alloc (blk_new w4 (.cells #[.int .u64 y', .int .i64 b', .int .i64 n', .pointer p'] MT)) (.cells #[.slice B1 m1 d1, .slice B2 m2 d2] RT)); have HBRB := Lib.hid (heap_k1 w4 (.cells #[.int .u64 y', .int .i64 b', .int .i64 n', .pointer p'] MT) (.cells #[.slice B1 m1 d1, .slice B2 m2 d2] RT))
  have HMA := Lib.hid (HM4.out.bound.below hal); have HMB := Lib.hid (HE4.out.bound.below hal); have HRA := Lib.hid (HR4.out.bound.below hal); have HRB := Lib.hid (HQ4.out.bound.below hal); have HWV := Lib.hid (below_trans HW4.out hal); have HCX := Lib.hid (blk_below HC5.out hal); have HDX := Lib.hid (blk_below HD5.out hal)
  have HGL := Lib.hid (blk_lt HBR4.out)
  clear hal HM4 HR4 HE4 HQ4 HBM4 HBR4 HW4 HM HR HBM HBR HW HDV HCV HC5 HD5 a0 a1 HME
  generalize (w4.alloc (.cells #[.int .u64 y', .int .i64 b', .int .i64 n', .pointer p'] MT)).alloc (.cells #[.slice B1 m1 d1, .slice B2 m2 d2] RT) = V at *
  generalize w4.heap.size = h at *
  have hLA2 : LA.length ≤ 1000 := by omega
  have hLB2 : LB.length ≤ 1000 := by omega
  have HTV := Lib.hid (HT.out.below HWV.out)
  obtain ⟨rfl, rfl, hv1, hv2⟩ := refv_parts HRA.out
  obtain ⟨rfl, rfl, hw1, hw2⟩ := refv_parts HRB.out
  obtain ⟨-, -, -, -, -, -, hS1, hSm1⟩ := mform HMA.out
  obtain ⟨-, -, -, -, -, -, hS2, hSm2⟩ := mform HMB.out
  obtain ⟨FU, hFU⟩ : ∃ F, F = uniL LA LB := ⟨_, rfl⟩
  obtain ⟨FM, hFM⟩ : ∃ F, F = LA.filter fun e => (lkp LB e.1).isSome := ⟨_, rfl⟩
  obtain ⟨FL, hFL⟩ : ∃ F, F = LA.filter fun e => !(lkp LB e.1).isSome := ⟨_, rfl⟩
  obtain ⟨FB, hFB⟩ : ∃ F, F = LA.filter fun e => btw lo hi e.1 := ⟨_, rfl⟩
  have HFU := Lib.hid (show FU.length ≤ 1000 by rw [hFU]; exact Nat.le_trans (uniL_len LB hS1) (by omega))
  have HFM := Lib.hid (show FM.length ≤ 1000 by rw [hFM]; exact Nat.le_trans (List.length_filter_le _ _) hLA2)
  have HFL := Lib.hid (show FL.length ≤ 1000 by rw [hFL]; exact Nat.le_trans (List.length_filter_le _ _) hLA2)
  have HFB := Lib.hid (show FB.length ≤ 1000 by rw [hFB]; exact Nat.le_trans (List.length_filter_le _ _) hLA2)
  have HUN := Lib.hid (fun V' (hV : Below V.heap.size V V') => (show Calls Tryd.prog 62 #[.agg #[.int .u64 y, .int .i64 b, .int .i64 n, .pointer p], .agg #[.int .u64 y', .int .i64 b', .int .i64 n', .pointer p']] V' (Ret (fun u w' => GivesK (fun x => True ∧ x < h) c y b FU V' u w') V') from by rw [hFU]; exact union_c c d _ _ LA LB y b n p y' b' n' p' V' HY.out HBE.out (HMA.out.below hV) (HMB.out.below hV) (by omega) (HTV.out.below hV)))
  have HRU := Lib.hid (fun V' (hV : Below V.heap.size V V') => (show Calls Tryd.prog 64 #[.agg #[.slice A1 LA.length c1, .slice A2 LA.length c2], .agg #[.slice B1 LB.length d1, .slice B2 LB.length d2]] V' (Ret (fun u w' => RGivesK (fun x => True ∧ x < h) FU V' u w') V') from by rw [hFU, ← uni_same hS1 hS2]; exact runion_w _ _ LA LB LA.length A1 A2 c1 c2 B1 B2 _ _ d1 d2 V' rfl (hv1.below hV) (hv2.below hV) hSm1 (HRB.out.below hV) hS2 hSm2 (by omega)))
  have HMT := Lib.hid (fun V' (hV : Below V.heap.size V V') => (show Calls Tryd.prog 60 #[.agg #[.int .u64 y, .int .i64 b, .int .i64 n, .pointer p], .agg #[.int .u64 y', .int .i64 b', .int .i64 n', .pointer p']] V' (Ret (fun u w' => GivesK (fun x => True ∧ x < h) c y b FM V' u w') V') from by rw [hFM]; exact meet_c c d _ _ LA LB y b n p y' b' n' p' V' HY.out HBE.out (HMA.out.below hV) (HMB.out.below hV) hLA2 hLB2 (HTV.out.below hV)))
  have HRM := Lib.hid (fun V' (hV : Below V.heap.size V V') => (show Calls Tryd.prog 65 #[.agg #[.slice A1 LA.length c1, .slice A2 LA.length c2], .agg #[.slice B1 LB.length d1, .slice B2 LB.length d2]] V' (Ret (fun u w' => RGivesK (fun _ => False) FM V' u w') V') from by rw [hFM]; exact rmeet_w _ _ LA LB LA.length A1 A2 c1 c2 B1 B2 _ _ d1 d2 (fun k => (lkp LB k).isSome) V' rfl (hv1.below hV) (hv2.below hV) hS1 hSm1 hLA2 (HRB.out.below hV) hS2 hSm2 hLB2 (fun k => beq_t _)))
  have HLS := Lib.hid (fun V' (hV : Below V.heap.size V V') => (show Calls Tryd.prog 61 #[.agg #[.int .u64 y, .int .i64 b, .int .i64 n, .pointer p], .agg #[.int .u64 y', .int .i64 b', .int .i64 n', .pointer p']] V' (Ret (fun u w' => GivesK (fun x => True ∧ x < h) c y b FL V' u w') V') from by rw [hFL]; exact less_c c d _ _ LA LB y b n p y' b' n' p' V' HY.out HBE.out (HMA.out.below hV) (HMB.out.below hV) hLA2 hLB2 (HTV.out.below hV)))
  have HRL := Lib.hid (fun V' (hV : Below V.heap.size V V') => (show Calls Tryd.prog 66 #[.agg #[.slice A1 LA.length c1, .slice A2 LA.length c2], .agg #[.slice B1 LB.length d1, .slice B2 LB.length d2]] V' (Ret (fun u w' => RGivesK (fun _ => False) FL V' u w') V') from by rw [hFL]; exact rless_w _ _ LA LB LA.length A1 A2 c1 c2 B1 B2 _ _ d1 d2 (fun k => !(lkp LB k).isSome) V' rfl (hv1.below hV) (hv2.below hV) hS1 hSm1 hLA2 (HRB.out.below hV) hS2 hSm2 hLB2 (fun k => beq_f _)))
  have HBT := Lib.hid (fun V' (hV : Below V.heap.size V V') => (show Calls Tryd.prog 67 #[.agg #[.int .u64 y, .int .i64 b, .int .i64 n, .pointer p], .string lo, .string hi] V' (Ret (fun u w' => GivesK (fun x => True ∧ x < h) c y b FB V' u w') V') from by rw [hFB]; exact between_c c _ LA y b n p lo hi V' HY.out HBE.out (HMA.out.below hV) hLA2 (HTV.out.below hV)))
  have HRT := Lib.hid (fun V' (hV : Below V.heap.size V V') => (show Calls Tryd.prog 68 #[.agg #[.slice A1 LA.length c1, .slice A2 LA.length c2], .string lo, .string hi] V' (Ret (fun u w' => RGivesK (fun _ => False) FB V' u w') V') from by rw [hFB]; exact rbetween_w _ LA LA.length A1 A2 c1 c2 lo hi (fun k => btw lo hi k) V' rfl (hv1.below hV) (hv2.below hV) hS1 hSm1 hLA2 (fun k => rfl)))
  have HSX := Lib.hid (fun (K1 K2 : Nat → Prop) (n5 : Int) (p5 : Option Addr) (u : Value) (F : List Pr) V' (hV : Below V.heap.size V V') (hm : MapV c K1 V' (.agg #[.int .u64 y, .int .i64 b, .int .i64 n5, .pointer p5]) F) (hr : RefV K2 V' u F) (hF : F.length ≤ 1000) => sames_c c K1 K2 y b n5 p5 u F V' hm hr hF (HTV.out.below hV))
  have HS1 := Lib.hid (fun V' (hV : Below V.heap.size V V') => sames_c c _ _ y b n p _ LA V' (HMA.out.below hV) (HRA.out.below hV) hLA2 (HTV.out.below hV))
  have HS2 := Lib.hid (fun V' (hV : Below V.heap.size V V') => sames_c d _ _ y' b' n' p' _ LB V' (HMB.out.below hV) (HRB.out.below hV) hLB2 (HTV.out.below hV))
  have H0 := Lib.hid (Below.refl V.heap.size V)
  obtain ⟨⟨a0, a1, a2, a3⟩, -⟩ := box4 HBMA.out
  obtain ⟨⟨c0', c1', c2', c3'⟩, -⟩ := box4 HBMB.out
  obtain ⟨⟨v0, v1⟩, -⟩ := box2 HBRA.out
  obtain ⟨⟨w0, w1'⟩, -⟩ := box2 HBRB.out
  obtain ⟨⟨q0, q1⟩, -⟩ := box2 HCX.out
  obtain ⟨⟨d0, d1'⟩, -⟩ := box2 HDX.out
  clear hv1 hv2 hw1 hw2 hS1 hS2 hSm1 hSm2 hFU hFM hFL hFB hLA hLB hLA2 hLB2 HMA HMB HRA HRB
  go_wp2_with fail
  go_region_held3 (fun w' => (w'.cell? ⟨g, 0, none⟩ = some (.int .u64 y) ∧ w'.cell? ⟨g, 1, none⟩ = some (.int .i64 b) ∧ w'.cell? ⟨g, 2, none⟩ = some (.int .i64 n) ∧ w'.cell? ⟨g, 3, none⟩ = some (.pointer p)) ∧ (w'.cell? ⟨h, 0, none⟩ = some (.int .u64 y') ∧ w'.cell? ⟨h, 1, none⟩ = some (.int .i64 b') ∧ w'.cell? ⟨h, 2, none⟩ = some (.int .i64 n') ∧ w'.cell? ⟨h, 3, none⟩ = some (.pointer p')) ∧ (w'.cell? ⟨g + 1, 0, none⟩ = some (.slice A1 LA.length c1) ∧ w'.cell? ⟨g + 1, 1, none⟩ = some (.slice A2 LA.length c2)) ∧ (w'.cell? ⟨h + 1, 0, none⟩ = some (.slice B1 LB.length d1) ∧ w'.cell? ⟨h + 1, 1, none⟩ = some (.slice B2 LB.length d2)) ∧ (w'.cell? ⟨W.heap.size, 0, none⟩ = some (.int .u64 y) ∧ w'.cell? ⟨W.heap.size, 1, none⟩ = some (.int .i64 b)) ∧ w'.cell? ⟨W.heap.size + 1, 0, none⟩ = some (.int .u64 y') ∧ w'.cell? ⟨W.heap.size + 1, 1, none⟩ = some (.int .i64 b'))
    ((refine ⟨⟨?_, ?_, ?_, ?_⟩, ⟨?_, ?_, ?_, ?_⟩, ⟨?_, ?_⟩, ⟨?_, ?_⟩, ⟨?_, ?_⟩, ?_, ?_⟩ <;> first | (with_reducible assumption) | (with_reducible exact cell_below a0 (by assumption)) | (with_reducible exact cell_below a1 (by assumption)) | (with_reducible exact cell_below a2 (by assumption)) | (with_reducible exact cell_below a3 (by assumption)) | (with_reducible exact cell_below c0' (by assumption)) | (with_reducible exact cell_below c1' (by assumption)) | (with_reducible exact cell_below c2' (by assumption)) | (with_reducible exact cell_below c3' (by assumption)) | (with_reducible exact cell_below v0 (by assumption)) | (with_reducible exact cell_below v1 (by assumption)) | (with_reducible exact cell_below w0 (by assumption)) | (with_reducible exact cell_below w1' (by assumption)) | (with_reducible exact cell_below q0 (by assumption)) | (with_reducible exact cell_below q1 (by assumption)) | (with_reducible exact cell_below d0 (by assumption)) | (with_reducible exact cell_below d1' (by assumption)) | (go_keep; done)))
    (first
      | (go_at_call 62; (with_reducible refine (HUN.out _ (H0.out.drew)).mono ?_); rintro e u11 ⟨v, rfl, ⟨n11, p11, rfl, hm11⟩, hk11⟩; have hb11 := below_trans (w1 := World.drew _) (Below.refl _ _).drew hk11)
      | (go_at_call 64; (with_reducible refine (HRU.out _ (below_trans H0.out hb11)).mono ?_); rintro e u12 ⟨v, rfl, ⟨E11, i11, e11, I11, j11, f11, rfl, hr11⟩, hk12⟩; have hb12 := below_trans hb11 hk12; have hm111 := MapV.below hm11 hk12)
      | (go_at_call 57; (with_reducible refine (HSX.out _ _ _ _ _ _ _ (below_trans H0.out hb12) hm111 hr11 HFU.out).mono ?_); rintro e u13 ⟨v, rfl, rfl, hk13⟩; have hb13 := below_trans hb12 hk13)
      | (go_at_call 60; (with_reducible refine (HMT.out _ (below_trans H0.out hb13)).mono ?_); rintro e u14 ⟨v, rfl, ⟨n14, p14, rfl, hm14⟩, hk14⟩; have hb14 := below_trans hb13 hk14)
      | (go_at_call 65; (with_reducible refine (HRM.out _ (below_trans H0.out hb14)).mono ?_); rintro e u15 ⟨v, rfl, ⟨E14, i14, e14, I14, j14, f14, rfl, hr14⟩, hk15⟩; have hb15 := below_trans hb14 hk15; have hm114 := MapV.below hm14 hk15)
      | (go_at_call 57; (with_reducible refine (HSX.out _ _ _ _ _ _ _ (below_trans H0.out hb15) hm114 hr14 HFM.out).mono ?_); rintro e u16 ⟨v, rfl, rfl, hk16⟩; have hb16 := below_trans hb15 hk16)
      | (go_at_call 61; (with_reducible refine (HLS.out _ (below_trans H0.out hb16)).mono ?_); rintro e u17 ⟨v, rfl, ⟨n17, p17, rfl, hm17⟩, hk17⟩; have hb17 := below_trans hb16 hk17)
      | (go_at_call 66; (with_reducible refine (HRL.out _ (below_trans H0.out hb17)).mono ?_); rintro e u18 ⟨v, rfl, ⟨E17, i17, e17, I17, j17, f17, rfl, hr17⟩, hk18⟩; have hb18 := below_trans hb17 hk18; have hm117 := MapV.below hm17 hk18)
      | (go_at_call 57; (with_reducible refine (HSX.out _ _ _ _ _ _ _ (below_trans H0.out hb18) hm117 hr17 HFL.out).mono ?_); rintro e u19 ⟨v, rfl, rfl, hk19⟩; have hb19 := below_trans hb18 hk19)
      | fail)
  have H9 := Lib.hid (below_trans H0.out hb19)
  clear a0 a1 a2 a3 c0' c1' c2' c3' v0 v1 w0 w1' q0 q1 d0 d1'
  obtain ⟨⟨a0, a1, a2, a3⟩, -⟩ := box4 (blk_below HBMA.out H9.out)
  obtain ⟨⟨c0', c1', c2', c3'⟩, -⟩ := box4 (blk_below HBMB.out H9.out)
  obtain ⟨⟨v0, v1⟩, -⟩ := box2 (blk_below HBRA.out H9.out)
  obtain ⟨⟨w0, w1'⟩, -⟩ := box2 (blk_below HBRB.out H9.out)
  obtain ⟨⟨q0, q1⟩, -⟩ := box2 (blk_below HCX.out H9.out)
  obtain ⟨⟨d0, d1'⟩, -⟩ := box2 (blk_below HDX.out H9.out)
  go_wp2_with fail
  go_region_held3 (fun w' => (w'.cell? ⟨g, 0, none⟩ = some (.int .u64 y) ∧ w'.cell? ⟨g, 1, none⟩ = some (.int .i64 b) ∧ w'.cell? ⟨g, 2, none⟩ = some (.int .i64 n) ∧ w'.cell? ⟨g, 3, none⟩ = some (.pointer p)) ∧ (w'.cell? ⟨h, 0, none⟩ = some (.int .u64 y') ∧ w'.cell? ⟨h, 1, none⟩ = some (.int .i64 b') ∧ w'.cell? ⟨h, 2, none⟩ = some (.int .i64 n') ∧ w'.cell? ⟨h, 3, none⟩ = some (.pointer p')) ∧ (w'.cell? ⟨g + 1, 0, none⟩ = some (.slice A1 LA.length c1) ∧ w'.cell? ⟨g + 1, 1, none⟩ = some (.slice A2 LA.length c2)) ∧ (w'.cell? ⟨h + 1, 0, none⟩ = some (.slice B1 LB.length d1) ∧ w'.cell? ⟨h + 1, 1, none⟩ = some (.slice B2 LB.length d2)) ∧ (w'.cell? ⟨W.heap.size, 0, none⟩ = some (.int .u64 y) ∧ w'.cell? ⟨W.heap.size, 1, none⟩ = some (.int .i64 b)) ∧ w'.cell? ⟨W.heap.size + 1, 0, none⟩ = some (.int .u64 y') ∧ w'.cell? ⟨W.heap.size + 1, 1, none⟩ = some (.int .i64 b'))
    ((refine ⟨⟨?_, ?_, ?_, ?_⟩, ⟨?_, ?_, ?_, ?_⟩, ⟨?_, ?_⟩, ⟨?_, ?_⟩, ⟨?_, ?_⟩, ?_, ?_⟩ <;> first | (with_reducible assumption) | (with_reducible exact cell_below a0 (by assumption)) | (with_reducible exact cell_below a1 (by assumption)) | (with_reducible exact cell_below a2 (by assumption)) | (with_reducible exact cell_below a3 (by assumption)) | (with_reducible exact cell_below c0' (by assumption)) | (with_reducible exact cell_below c1' (by assumption)) | (with_reducible exact cell_below c2' (by assumption)) | (with_reducible exact cell_below c3' (by assumption)) | (with_reducible exact cell_below v0 (by assumption)) | (with_reducible exact cell_below v1 (by assumption)) | (with_reducible exact cell_below w0 (by assumption)) | (with_reducible exact cell_below w1' (by assumption)) | (with_reducible exact cell_below q0 (by assumption)) | (with_reducible exact cell_below q1 (by assumption)) | (with_reducible exact cell_below d0 (by assumption)) | (with_reducible exact cell_below d1' (by assumption)) | (go_keep; done)))
    (first
      | (go_at_call 67; (with_reducible refine (HBT.out _ (H9.out.drew)).mono ?_); rintro e u31 ⟨v, rfl, ⟨n31, p31, rfl, hm31⟩, hk31⟩; have hb31 := below_trans (w1 := World.drew _) (Below.refl _ _).drew hk31)
      | (go_at_call 68; (with_reducible refine (HRT.out _ (below_trans H9.out hb31)).mono ?_); rintro e u32 ⟨v, rfl, ⟨E31, i31, e31, I31, j31, f31, rfl, hr31⟩, hk32⟩; have hb32 := below_trans hb31 hk32; have hm131 := MapV.below hm31 hk32)
      | (go_at_call 57; (with_reducible refine (HSX.out _ _ _ _ _ _ _ (below_trans H9.out hb32) hm131 hr31 HFB.out).mono ?_); rintro e u33 ⟨v, rfl, rfl, hk33⟩; have hb33 := below_trans hb32 hk33)
      | (go_at_call 57; (with_reducible refine (HS1.out _ (below_trans H9.out hb33)).mono ?_); rintro e u50 ⟨v, rfl, rfl, hk50⟩; have hb50 := below_trans hb33 hk50)
      | (go_at_call 57; (with_reducible refine (HS2.out _ (below_trans H9.out hb50)).mono ?_); rintro e u51 ⟨v, rfl, rfl, hk51⟩; have hb51 := below_trans hb50 hk51)
      | fail)
  have HEND := Lib.hid (below_trans HWV.out (below_trans H9.out hb51))
  go_wp2_with fail
  go_returns
  exact ⟨rfl, HEND.out⟩
set_option maxHeartbeats 4000000 in
theorem joins_out (c d : Cf) (va vb : Value) (T T' : Nat) (A A' : Option Addr) (cs cs' : Nat) (lo hi : ByteArray) (b1 b2 : Bool) (W : World) (hv : va = .slice A T cs) (hv' : vb = .slice A' T' cs') (hT : Tab W) (hn : b1 = false ∨ (b1 = true ∧ b2 = false) ∨ (b1 = true ∧ b2 = true ∧ (lo.size : Int) > 200) ∨ (b1 = true ∧ b2 = true ∧ ¬ (lo.size : Int) > 200 ∧ (hi.size : Int) > 200))
    (hf : ∀ V, Below W.heap.size W V → Calls Tryd.prog 37 #[va] V (Ret (fun u _ => u = .bool b1) V)) (hf' : ∀ V, Below W.heap.size W V → Calls Tryd.prog 37 #[vb] V (Ret (fun u _ => u = .bool b2) V)) :
    Calls Tryd.prog 15 #[confV c, confV d, va, vb, .string lo, .string hi] W (Tru W) := by
  subst hv; subst hv'
  have HT := Lib.hid hT; have HFA := Lib.hid hf; have HFB := Lib.hid hf'
  have HLV := Lib.hid (fun V hT => livep_c V hT)
  show Calls Tryd.prog 15 #[.agg #[.int .u64 (U c.1), .int .i64 c.2], .agg #[.int .u64 (U d.1), .int .i64 d.2], .slice A T cs, .slice A' T' cs', .string lo, .string hi] W _
  generalize U c.1 = y
  generalize c.2 = b
  generalize U d.1 = y'
  generalize d.2 = b'
  clear hT hf hf'
  rcases hn with rfl | ⟨rfl, rfl⟩ | ⟨rfl, rfl, hn1⟩ | ⟨rfl, rfl, hn1, hn2⟩
  · go_enter Tryd.func15, Tryd.ntmps15
    have hB0 := ((Below.refl W.heap.size W).alloc (Nat.le_refl _) (.cells #[.int .u64 y, .int .i64 b] CT)).alloc (by simp) (.cells #[.int .u64 y', .int .i64 b'] CT)
    go_wp2_with (first
      | (go_at_call 37; ((with_reducible refine (HFB.out _ HB1.out).mono ?_); rintro e w2 ⟨v, rfl, rfl, hb2⟩; have HB2 := Lib.hid (below_trans HB1.out hb2); clear hb2))
      | (go_at_call 37; ((with_reducible refine (HFA.out _ HBL.out).mono ?_); rintro e w2 ⟨v, rfl, rfl, hb2⟩; have HB1 := Lib.hid (below_trans HBL.out hb2); have HB2 := Lib.hid (below_trans HBL.out hb2); clear hb2))
      | (go_at_call 36; ((with_reducible refine (HLV.out _ (HT.out.below HB2.out)).mono ?_); rintro e w3 ⟨v, rfl, rfl, hb3⟩; have HB3 := Lib.hid (below_trans HB2.out hb3); clear hb3))
      | (go_at_call 36; ((with_reducible refine (HLV.out _ (HT.out.below hB0)).mono ?_); rintro e w1 ⟨v, rfl, rfl, hb1⟩; have HBL := Lib.hid (below_trans hB0 hb1); clear hb1))
      | fail)
    go_returns
    exact ⟨rfl, HB3.out⟩
  · go_enter Tryd.func15, Tryd.ntmps15
    have hB0 := ((Below.refl W.heap.size W).alloc (Nat.le_refl _) (.cells #[.int .u64 y, .int .i64 b] CT)).alloc (by simp) (.cells #[.int .u64 y', .int .i64 b'] CT)
    go_wp2_with (first
      | (go_at_call 37; ((with_reducible refine (HFB.out _ HB1.out).mono ?_); rintro e w2 ⟨v, rfl, rfl, hb2⟩; have HB2 := Lib.hid (below_trans HB1.out hb2); clear hb2))
      | (go_at_call 37; ((with_reducible refine (HFA.out _ HBL.out).mono ?_); rintro e w2 ⟨v, rfl, rfl, hb2⟩; have HB1 := Lib.hid (below_trans HBL.out hb2); have HB2 := Lib.hid (below_trans HBL.out hb2); clear hb2))
      | (go_at_call 36; ((with_reducible refine (HLV.out _ (HT.out.below HB2.out)).mono ?_); rintro e w3 ⟨v, rfl, rfl, hb3⟩; have HB3 := Lib.hid (below_trans HB2.out hb3); clear hb3))
      | (go_at_call 36; ((with_reducible refine (HLV.out _ (HT.out.below hB0)).mono ?_); rintro e w1 ⟨v, rfl, rfl, hb1⟩; have HBL := Lib.hid (below_trans hB0 hb1); clear hb1))
      | fail)
    go_returns
    exact ⟨rfl, HB3.out⟩
  · go_enter Tryd.func15, Tryd.ntmps15
    have hB0 := ((Below.refl W.heap.size W).alloc (Nat.le_refl _) (.cells #[.int .u64 y, .int .i64 b] CT)).alloc (by simp) (.cells #[.int .u64 y', .int .i64 b'] CT)
    go_wp2_with (first
      | (go_at_call 37; ((with_reducible refine (HFB.out _ HB1.out).mono ?_); rintro e w2 ⟨v, rfl, rfl, hb2⟩; have HB2 := Lib.hid (below_trans HB1.out hb2); clear hb2))
      | (go_at_call 37; ((with_reducible refine (HFA.out _ HBL.out).mono ?_); rintro e w2 ⟨v, rfl, rfl, hb2⟩; have HB1 := Lib.hid (below_trans HBL.out hb2); have HB2 := Lib.hid (below_trans HBL.out hb2); clear hb2))
      | (go_at_call 36; ((with_reducible refine (HLV.out _ (HT.out.below HB2.out)).mono ?_); rintro e w3 ⟨v, rfl, rfl, hb3⟩; have HB3 := Lib.hid (below_trans HB2.out hb3); clear hb3))
      | (go_at_call 36; ((with_reducible refine (HLV.out _ (HT.out.below hB0)).mono ?_); rintro e w1 ⟨v, rfl, rfl, hb1⟩; have HBL := Lib.hid (below_trans hB0 hb1); clear hb1))
      | fail)
    go_returns
    exact ⟨rfl, HB3.out⟩
  · go_enter Tryd.func15, Tryd.ntmps15
    have hB0 := ((Below.refl W.heap.size W).alloc (Nat.le_refl _) (.cells #[.int .u64 y, .int .i64 b] CT)).alloc (by simp) (.cells #[.int .u64 y', .int .i64 b'] CT)
    go_wp2_with (first
      | (go_at_call 37; ((with_reducible refine (HFB.out _ HB1.out).mono ?_); rintro e w2 ⟨v, rfl, rfl, hb2⟩; have HB2 := Lib.hid (below_trans HB1.out hb2); clear hb2))
      | (go_at_call 37; ((with_reducible refine (HFA.out _ HBL.out).mono ?_); rintro e w2 ⟨v, rfl, rfl, hb2⟩; have HB1 := Lib.hid (below_trans HBL.out hb2); have HB2 := Lib.hid (below_trans HBL.out hb2); clear hb2))
      | (go_at_call 36; ((with_reducible refine (HLV.out _ (HT.out.below HB2.out)).mono ?_); rintro e w3 ⟨v, rfl, rfl, hb3⟩; have HB3 := Lib.hid (below_trans HB2.out hb3); clear hb3))
      | (go_at_call 36; ((with_reducible refine (HLV.out _ (HT.out.below hB0)).mono ?_); rintro e w1 ⟨v, rfl, rfl, hb1⟩; have HBL := Lib.hid (below_trans hB0 hb1); clear hb1))
      | fail)
    go_returns
    exact ⟨rfl, HB3.out⟩
theorem joins_c (c d : Cf) (va : Value) (oa : List S2) (vb : Value) (ob : List S2) (lo hi : ByteArray) (W : World) (hT : Tab W) (hA : PairsV W va oa) (hB : PairsV W vb ob) : Calls Tryd.prog 15 #[confV c, confV d, va, vb, .string lo, .string hi] W (Tru W) := by
  obtain ⟨b1, h1, hf1⟩ := fewp_c va oa W hA
  obtain ⟨b2, h2, hf2⟩ := fewp_c vb ob W hB
  obtain ⟨A, cs, hv, -⟩ := id hA
  obtain ⟨A', cs', hv', -⟩ := id hB
  cases b1 with
  | false => exact joins_out c d va vb _ _ A A' cs cs' lo hi false b2 W hv hv' hT (Or.inl rfl) hf1 hf2
  | true =>
    cases b2 with
    | false => exact joins_out c d va vb _ _ A A' cs cs' lo hi true false W hv hv' hT (Or.inr (Or.inl ⟨rfl, rfl⟩)) hf1 hf2
    | true =>
      by_cases hlo : lo.size ≤ 200
      · by_cases hhi : hi.size ≤ 200
        · exact joins_in c d va oa vb ob lo hi hlo hhi W hT hA hB (h1 rfl).1 (h1 rfl).2 (h2 rfl).1 (h2 rfl).2 hf1 hf2
        · exact joins_out c d va vb _ _ A A' cs cs' lo hi true true W hv hv' hT (Or.inr (Or.inr (Or.inr ⟨rfl, rfl, by omega, by omega⟩))) hf1 hf2
      · exact joins_out c d va vb _ _ A A' cs cs' lo hi true true W hv hv' hT (Or.inr (Or.inr (Or.inl ⟨rfl, rfl, by omega⟩))) hf1 hf2
theorem joins_r (c d : Cf) (va : Value) (oa : List S2) (vb : Value) (ob : List S2) (lo hi : ByteArray) (W : World) (hT : Tab W) (hA : PairsV W va oa) (hB : PairsV W vb ob) {P Q : Prop} (_ : P) (_ : Q) : Calls Tryd.prog 15 #[confV c, confV d, va, vb, .string lo, .string hi] W (Tru W) := joins_c c d va oa vb ob lo hi W hT hA hB
end Go.Proofs.YtnegblckbomgdaaDoor.Ht
