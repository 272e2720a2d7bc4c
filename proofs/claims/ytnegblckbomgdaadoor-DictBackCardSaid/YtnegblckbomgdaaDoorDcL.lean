/- Changes applied to the one map make what the other one has; turned, what the first one has: the walk. -/
import Derived.Test.YtnegblckbomgdaaDoorDcK
import Derived.Deep.DeepCutAuto
set_option linter.unusedVariables false
set_option linter.unusedSimpArgs false
namespace Go.Proofs.YtnegblckbomgdaaDoor.Ht
open Go Go.RowKit Go.Shelf Go.Proofs.YtnegblckbomgdaaDoor.Mem Go.Proofs.YtnegblckbomgdaaDoor.PA Go.Proofs.YtnegblckbomgdaaDoorW.PrintWords Go.Proofs.YtnegblckbomgdaaDoor.U64 Go.Proofs.YtnegblckbomgdaaDoor.Bs Go.Proofs.YtnegblckbomgdaaDoor

set_option maxRecDepth 100000 in
set_option maxHeartbeats 8000000 in
theorem back_in (c d : Cf) (va : Value) (oa : List S2) (vb : Value) (ob : List S2) (self : Bool) (W : World) (hT : Tab W) (hA : PairsV W va oa) (hB : PairsV W vb ob) (hl : oa.length ≤ 80) (hk : ∀ o ∈ oa, o.f0.size ≤ 200) (hl' : ob.length ≤ 80) (hk' : ∀ o ∈ ob, o.f0.size ≤ 200)
    (hfa : ∀ V, Below W.heap.size W V → Calls Tryd.prog 37 #[va] V (Ret (fun u _ => u = .bool true) V)) (hfb : ∀ V, Below W.heap.size W V → Calls Tryd.prog 37 #[vb] V (Ret (fun u _ => u = .bool true) V)) :
    Calls Tryd.prog 16 #[confV c, confV d, va, vb, .bool self] W (Tru W) := by
  obtain ⟨As, cs, rfl, -⟩ := id hA
  obtain ⟨Bs, ds, rfl, -⟩ := id hB
  obtain ⟨y, hy⟩ : ∃ y, U c.1 = y := ⟨_, rfl⟩
  obtain ⟨b, hb⟩ : ∃ b, c.2 = b := ⟨_, rfl⟩
  obtain ⟨y', hy'⟩ : ∃ y, U d.1 = y := ⟨_, rfl⟩
  obtain ⟨b', hb'⟩ : ∃ b, d.2 = b := ⟨_, rfl⟩
  have HT := Lib.hid hT; have HFA := Lib.hid hfa; have HFB := Lib.hid hfb; have HY := Lib.hid hy; have HBE := Lib.hid hb; have HY2 := Lib.hid hy'; have HBE2 := Lib.hid hb'
  have HLV := Lib.hid (fun V hT => livep_c V hT)
  have HMD := Lib.hid (fun V (hV : Below W.heap.size W V) => (show Calls Tryd.prog 38 #[.agg #[.int .u64 y, .int .i64 b], .slice As oa.length cs] V (Ret (fun u w' => Made c y b 80 u w') V) from made_w c _ oa y b hy hb V (hA.below hV) hl hk))
  have HME := Lib.hid (fun V (hV : Below W.heap.size W V) => (show Calls Tryd.prog 38 #[.agg #[.int .u64 y', .int .i64 b'], .slice Bs ob.length ds] V (Ret (fun u w' => Made d y' b' 80 u w') V) from made_w d _ ob y' b' hy' hb' V (hB.below hV) hl' hk'))
  show Calls Tryd.prog 16 #[.agg #[.int .u64 (U c.1), .int .i64 c.2], .agg #[.int .u64 (U d.1), .int .i64 d.2], .slice As oa.length cs, .slice Bs ob.length ds, .bool self] W _
  rw [hy, hb, hy', hb']
  clear hy hb hy' hb' hA hB hl hk hl' hk' hT hfa hfb
  generalize oa.length = T at HFA HMD ⊢
  generalize ob.length = T' at HFB HME ⊢
  have HB0 := Lib.hid (((Below.refl W.heap.size W).alloc (Nat.le_refl _) (.cells #[.int .u64 y, .int .i64 b] CT)).alloc (by simp) (.cells #[.int .u64 y', .int .i64 b'] CT))
  have HC0 := Lib.hid (blk_alloc (blk_new W (.cells #[.int .u64 y, .int .i64 b] CT)) (.cells #[.int .u64 y', .int .i64 b'] CT)); have HD0 := Lib.hid (heap_k1 W (.cells #[.int .u64 y, .int .i64 b] CT) (.cells #[.int .u64 y', .int .i64 b'] CT))
  go_enter Tryd.func16, Tryd.ntmps16
  go_upto_region 4 with (first
    | (go_at_call 36; ((with_reducible refine (HLV.out _ (HT.out.below HB0.out)).mono ?_); rintro e w1 ⟨v, rfl, rfl, hb1⟩; have HB1 := Lib.hid (below_trans HB0.out hb1); have HC1 := Lib.hid (blk_below HC0.out hb1); have HD1 := Lib.hid (blk_below HD0.out hb1); clear hb1))
    | (go_at_call 37; ((with_reducible refine (HFB.out _ HB2.out).mono ?_); rintro e w2b ⟨v, rfl, rfl, hb2⟩; have HB3 := Lib.hid (below_trans HB2.out hb2); have HD3 := Lib.hid (blk_below HD2.out hb2); obtain ⟨⟨a0, a1⟩, -⟩ := box2 (blk_below HC2.out hb2); clear hb2))
    | (go_at_call 37; ((with_reducible refine (HFA.out _ HB1.out).mono ?_); rintro e w2 ⟨v, rfl, rfl, hb2⟩; have HB2 := Lib.hid (below_trans HB1.out hb2); have HC2 := Lib.hid (blk_below HC1.out hb2); have HD2 := Lib.hid (blk_below HD1.out hb2); clear hb2))
    | (go_at_call 38; ((with_reducible refine (HMD.out _ HB3.out).mono ?_); rintro e w3 ⟨v, rfl, ⟨LA, n, p, A1, n1, c1, A2, n2, c2, rfl, hLA, hm, hr⟩, hb3⟩; have HB4 := Lib.hid (below_trans HB3.out hb3); have HD4 := Lib.hid (blk_below HD3.out hb3); have HM3 := Lib.hid hm; have HR3 := Lib.hid hr; clear hb3 hm hr))
    | fail)
  have hal := ((Below.refl w3.heap.size w3).alloc (Nat.le_refl _) (.cells #[.int .u64 y, .int .i64 b, .int .i64 n, .pointer p] MT)).alloc (by simp) (.cells #[.slice A1 n1 c1, .slice A2 n2 c2] RT)
  have HBM := Lib.hid (blk_alloc (blk_new w3 (.cells #[.int .u64 y, .int .i64 b, .int .i64 n, .pointer p] MT)) (.cells #[.slice A1 n1 c1, .slice A2 n2 c2] RT)); have HBR := Lib.hid (heap_k1 w3 (.cells #[.int .u64 y, .int .i64 b, .int .i64 n, .pointer p] MT) (.cells #[.slice A1 n1 c1, .slice A2 n2 c2] RT))
  have HM := Lib.hid (HM3.out.below hal); have HR := Lib.hid (HR3.out.below hal); have HW := Lib.hid (below_trans HB4.out hal); have HDV := Lib.hid (blk_below HD4.out hal)
  clear hal HM3 HR3 HB4 HD4 HB3 HD3 HB2 HC2 HD2 HB1 HC1 HD1 HB0 HC0 HD0 a0 a1 HMD HFA HFB HLV
  generalize (w3.alloc (.cells #[.int .u64 y, .int .i64 b, .int .i64 n, .pointer p] MT)).alloc (.cells #[.slice A1 n1 c1, .slice A2 n2 c2] RT) = V1 at *
  generalize w3.heap.size = g at *
  obtain ⟨⟨a0, a1⟩, -⟩ := box2 HDV.out
  go_upto_region 5 with (first
    | (go_at_call 38; ((with_reducible refine (HME.out _ HW.out).mono ?_); rintro e w4 ⟨v, rfl, ⟨LB, n', p', B1, m1, d1, B2, m2, d2, rfl, hLB, hm, hr⟩, hb3⟩; have HW4 := Lib.hid (below_trans HW.out hb3); have HM4 := Lib.hid (HM.out.below hb3); have HR4 := Lib.hid (HR.out.below hb3); have HBM4 := Lib.hid (blk_below HBM.out hb3); have HBR4 := Lib.hid (blk_below HBR.out hb3); have HE4 := Lib.hid hm; have HQ4 := Lib.hid hr; clear hb3 hm hr))
    | fail)
  have hal := ((Below.refl w4.heap.size w4).alloc (Nat.le_refl _) (.cells #[.int .u64 y', .int .i64 b', .int .i64 n', .pointer p'] MT)).alloc (by simp) (.cells #[.slice B1 m1 d1, .slice B2 m2 d2] RT)
  have HBMA := Lib.hid (blk_below HBM4.out hal); have HBRA := Lib.hid (blk_below HBR4.out hal); have HBMB := Lib.hid (blk_alloc (blk_new w4 (.cells #[.int .u64 y', .int .i64 b', .int .i64 n', .pointer p'] MT)) (.cells #[.slice B1 m1 d1, .slice B2 m2 d2] RT)); have HBRB := Lib.hid (heap_k1 w4 (.cells #[.int .u64 y', .int .i64 b', .int .i64 n', .pointer p'] MT) (.cells #[.slice B1 m1 d1, .slice B2 m2 d2] RT))
  have HMA := Lib.hid (HM4.out.bound.below hal); have HMB := Lib.hid (HE4.out.bound.below hal); have HRA := Lib.hid (HR4.out.bound.below hal); have HRB := Lib.hid (HQ4.out.bound.below hal); have HWV := Lib.hid (below_trans HW4.out hal)
  have HGL := Lib.hid (blk_lt HBR4.out)
  have HWH := Lib.hid HW4.out.size
  clear hal HM4 HR4 HE4 HQ4 HBM4 HBR4 HW4 HM HR HBM HBR HW HDV a0 a1 HME
  generalize (w4.alloc (.cells #[.int .u64 y', .int .i64 b', .int .i64 n', .pointer p'] MT)).alloc (.cells #[.slice B1 m1 d1, .slice B2 m2 d2] RT) = V at *
  generalize w4.heap.size = h at *
  have hLA2 : LA.length ≤ 1000 := by omega
  have hLB2 : LB.length ≤ 1000 := by omega
  have HTV := Lib.hid (HT.out.below HWV.out)
  cases self with
  | false =>
    have HBA := HBMA; have HBB := HBMB; have HMAv := HMA; have HMBv := HMB; have HWW := HWV; have HTW := HTV
    clear HBMA HBMB HMA HMB HRA HRB HBRA HBRB HGL HWV HTV
    have hS1 := (mform HMAv.out).choose_spec.choose_spec.choose_spec.choose_spec.2.2.1
    have hS2 := (mform HMBv.out).choose_spec.choose_spec.choose_spec.choose_spec.2.2.1
    have hSm1 := (mform HMAv.out).choose_spec.choose_spec.choose_spec.choose_spec.2.2.2
    have hSm2 := (mform HMBv.out).choose_spec.choose_spec.choose_spec.choose_spec.2.2.2
    obtain ⟨DD, hDD⟩ : ∃ DD, DD = diffL eqI LA LB := ⟨_, rfl⟩
    obtain ⟨hk1, hk2, hk3, -⟩ := diff_all eqI _ LA LB (Nat.le_refl _) hS1 hS2
    rw [← hDD] at hk1 hk2 hk3
    have hks : ∀ x ∈ DD, x.f0.size ≤ 1000000 := fun x hx => by
      rcases hk1 x hx with ⟨e, he, h⟩ | ⟨e, he, h⟩
      · rw [← h]; exact hSm1 e he
      · rw [← h]; exact hSm2 e he
    have hks' : ∀ x ∈ DD.map trn, x.f0.size ≤ 1000000 := fun x hx => by
      obtain ⟨z, hz, rfl⟩ := List.mem_map.1 hx
      exact hks z hz
    have hD1 : DD.length ≤ 200 := by omega
    have HCH := Lib.hid fun V' (hV : Below V.heap.size V V') => (show Calls Tryd.prog 49 #[.agg #[.int .u64 y, .int .i64 b, .int .i64 n, .pointer p], .agg #[.int .u64 y', .int .i64 b', .int .i64 n', .pointer p'], .func (.func 69) #[] #[]] V' (Ret (fun u w' => ChV w' u DD) V') from hDD ▸ changes_eq c d _ _ LA LB y b n p y' b' n' p' eqI V' (HMAv.out.below hV) (HMBv.out.below hV) hLA2 hLB2 (HTW.out.below hV) (fun x z V'' _ => equal_c x z V''))
    have HAP := Lib.hid fun (A : Option Addr) (N cs : Nat) V' (hV : Below V.heap.size V V') (hN : N = DD.length) (hu : ChV V' (.slice A N cs) DD) => (show Calls Tryd.prog 58 #[.agg #[.int .u64 y, .int .i64 b, .int .i64 n, .pointer p], .slice A N cs] V' (Ret (fun u w' => Gives c y b LB u w') V') from (show appL LA DD = LB from hDD ▸ appL_diff hS1 hS2) ▸ apply_w c _ LA DD y b n p A cs N V' HY.out HBE.out (HMAv.out.below hV) hu hN (by omega) hks (HTW.out.below hV))
    have HAQ := Lib.hid fun (A : Option Addr) (N cs : Nat) V' (hV : Below V.heap.size V V') (hN : N = (DD.map trn).length) (hu : ChV V' (.slice A N cs) (DD.map trn)) => (show Calls Tryd.prog 58 #[.agg #[.int .u64 y', .int .i64 b', .int .i64 n', .pointer p'], .slice A N cs] V' (Ret (fun u w' => Gives d y' b' LA u w') V') from (show appL LB (DD.map trn) = LA from hDD ▸ appL_turn hS1 hS2) ▸ apply_w d _ LB (DD.map trn) y' b' n' p' A cs N V' HY2.out HBE2.out (HMBv.out.below hV) hu hN (by rw [List.length_map]; omega) hks' (HTW.out.below hV))
    have HTN := Lib.hid fun (u : Value) V' (hu : ChV V' u DD) => turned_c u DD (by omega) V' hu
    have HA1 := Lib.hid fun (r : Value) V' (hV : Below V.heap.size V V') (hr : MapV c (fun _ => True) V' r LB) => alike_c c d _ _ r (.agg #[.int .u64 y', .int .i64 b', .int .i64 n', .pointer p']) LB V' hr (HMBv.out.below hV) hLB2 (HTW.out.below hV)
    have HA2 := Lib.hid fun (r : Value) V' (hV : Below V.heap.size V V') (hr : MapV d (fun _ => True) V' r LA) => alike_c d c _ _ r (.agg #[.int .u64 y, .int .i64 b, .int .i64 n, .pointer p]) LA V' hr (HMAv.out.below hV) hLA2 (HTW.out.below hV)
    have HZL : Hid (True) := Lib.hid trivial
    have HBX := Lib.hid (Below.refl V.heap.size V)
    clear hS1 hS2 hSm1 hSm2 hk1 hk2 hk3 hks hks' hLA hLA2 hDD
    obtain ⟨⟨a0, a1, a2, a3⟩, -⟩ := box4 HBA.out
    obtain ⟨⟨c0, c1, c2, c3⟩, -⟩ := box4 HBB.out
    go_upto_region 8 with (first
      | (go_at_call 49; ((with_reducible refine (HCH.out _ HBX.out).mono ?_); rintro e w5 ⟨v, rfl, hc5, hb5⟩; obtain ⟨AD, cd, he⟩ := hc5.form; subst he; have HC5 := Lib.hid hc5; have H5 := Lib.hid hb5; clear hc5 hb5))
      | fail)
    clear a0 a1 a2 a3 c0 c1 c2 c3
    obtain ⟨nd, hnd⟩ : ∃ nd, nd = DD.length := ⟨_, rfl⟩
    rw [← hnd] at HC5 ⊢
    have HND := Lib.hid hnd
    clear HZL
    clear hnd hD1
    obtain ⟨⟨a0, a1, a2, a3⟩, -⟩ := box4 (blk_below HBA.out H5.out)
    obtain ⟨⟨c0, c1, c2, c3⟩, -⟩ := box4 (blk_below HBB.out H5.out)
    refine wp_region_noPanic ?_
    refine RegL.wp_region_late [] (fun (w' : World) => (w'.cell? ⟨g, 0, none⟩ = some (.int .u64 y) ∧ w'.cell? ⟨g, 1, none⟩ = some (.int .i64 b) ∧ w'.cell? ⟨g, 2, none⟩ = some (.int .i64 n) ∧ w'.cell? ⟨g, 3, none⟩ = some (.pointer p)) ∧ w'.cell? ⟨h, 0, none⟩ = some (.int .u64 y') ∧ w'.cell? ⟨h, 1, none⟩ = some (.int .i64 b') ∧ w'.cell? ⟨h, 2, none⟩ = some (.int .i64 n') ∧ w'.cell? ⟨h, 3, none⟩ = some (.pointer p')) (by kernel_rfl) ?_
    have hS0 : (fun (w' : World) => (w'.cell? ⟨g, 0, none⟩ = some (.int .u64 y) ∧ w'.cell? ⟨g, 1, none⟩ = some (.int .i64 b) ∧ w'.cell? ⟨g, 2, none⟩ = some (.int .i64 n) ∧ w'.cell? ⟨g, 3, none⟩ = some (.pointer p)) ∧ w'.cell? ⟨h, 0, none⟩ = some (.int .u64 y') ∧ w'.cell? ⟨h, 1, none⟩ = some (.int .i64 b') ∧ w'.cell? ⟨h, 2, none⟩ = some (.int .i64 n') ∧ w'.cell? ⟨h, 3, none⟩ = some (.pointer p')) w5.drew := ⟨⟨a0, a1, a2, a3⟩, c0, c1, c2, c3⟩
    show RegL.wpAnyL _ _ _ _ _ _ 23 _ _ _
    refine RegL.wpAnyL_take (i := 0) (oi := ⟨some 46, Op.load 30 (Operand.tmp 11), _, _, _, _⟩) (v := ?vvr81) rfl (by kernel_rfl) (by kernel_rfl) (by kernel_rfl) (by kernel_rfl) (by kernel_rfl) (by kernel_rfl) (fun _ _ _ h => h) (Or.inl ⟨by rfl, ?hyr81⟩) hS0 ?restr81
    case hyr81 => ((intro w hSw; (try dsimp only at hSw); go_simp) <;> with_reducible rfl)
    try simp only [Act.put, List.setIfInBounds_toArray, List.set_cons_zero, List.set_cons_succ]
    refine RegL.wpAnyL_take (i := 1) (oi := ⟨some 47, Op.move (Operand.tmp 15), _, _, _, _⟩) (v := ?vvr82) rfl (by kernel_rfl) (by kernel_rfl) (by kernel_rfl) (by kernel_rfl) (by kernel_rfl) (by kernel_rfl) (fun _ _ _ h => h) (Or.inl ⟨by rfl, ?hyr82⟩) hS0 ?restr82
    case hyr82 => ((intro w hSw; (try dsimp only at hSw); go_simp) <;> with_reducible rfl)
    try simp only [Act.put, List.setIfInBounds_toArray, List.set_cons_zero, List.set_cons_succ]
    refine RegL.wpAnyL_take (i := 3) (oi := ⟨some 49, Op.load 30 (Operand.tmp 13), _, _, _, _⟩) (v := ?vvr83) rfl (by kernel_rfl) (by kernel_rfl) (by kernel_rfl) (by kernel_rfl) (by kernel_rfl) (by kernel_rfl) (fun _ _ _ h => h) (Or.inl ⟨by rfl, ?hyr83⟩) hS0 ?restr83
    case hyr83 => ((intro w hSw; (try dsimp only at hSw); go_simp) <;> with_reducible rfl)
    try simp only [Act.put, List.setIfInBounds_toArray, List.set_cons_zero, List.set_cons_succ]
    refine RegL.wpAnyL_ready (rs := [2]) (by kernel_rfl) (by simp) ?_
    refine RegL.AllReadyL.calm (o := ⟨some 48, Op.call { callee := Callee.value (Operand.func 58), args := #[Operand.tmp 46, Operand.tmp 47], argTypes := #[30, 78] }, _, _, _, _⟩) rfl (fun K hK => ?_) RegL.AllReadyL.nil
    go_simp
    refine (HAP.out _ _ _ _ H5.out.drew HND.out (HC5.out.below ((Below.refl _ _).drew))).mono ?_
    rintro e u1 ⟨v, rfl, ⟨n5, p5, rfl, hm1⟩, hk1⟩
    have hb1 := below_trans (w1 := World.drew _) (Below.refl _ _).drew hk1
    (try dsimp only)
    refine hK.out _ _ (⟨⟨cell_below hS0.1.1 hk1, cell_below hS0.1.2.1 hk1, cell_below hS0.1.2.2.1 hk1, cell_below hS0.1.2.2.2 hk1⟩, cell_below hS0.2.1 hk1, cell_below hS0.2.2.1 hk1, cell_below hS0.2.2.2.1 hk1, cell_below hS0.2.2.2.2 hk1⟩) (fun hS0x => ?_)
    clear hK K
    try simp only [Act.put, List.setIfInBounds_toArray, List.set_cons_zero, List.set_cons_succ]
    refine RegL.wpAnyL_ready (rs := [4]) (by kernel_rfl) (by simp) ?_
    refine RegL.AllReadyL.calm (o := ⟨some 50, Op.call { callee := Callee.value (Operand.func 63), args := #[Operand.tmp 48, Operand.tmp 49], argTypes := #[30, 30] }, _, _, _, _⟩) rfl (fun K hK => ?_) RegL.AllReadyL.nil
    go_simp
    refine (HA1.out _ _ (below_trans H5.out hb1) hm1).mono ?_
    rintro e u2 ⟨v, rfl, rfl, hk2⟩
    have hb2 := below_trans hb1 hk2
    (try dsimp only)
    refine hK.out _ _ (⟨⟨cell_below hS0x.1.1 hk2, cell_below hS0x.1.2.1 hk2, cell_below hS0x.1.2.2.1 hk2, cell_below hS0x.1.2.2.2 hk2⟩, cell_below hS0x.2.1 hk2, cell_below hS0x.2.2.1 hk2, cell_below hS0x.2.2.2.1 hk2, cell_below hS0x.2.2.2.2 hk2⟩) (fun hS0xx => ?_)
    clear hK K
    try simp only [Act.put, List.setIfInBounds_toArray, List.set_cons_zero, List.set_cons_succ]
    refine RegL.wpAnyL_take (i := 5) (oi := ⟨some 51, Op.move (Operand.tmp 50), _, _, _, _⟩) (v := ?vvr84) rfl (by kernel_rfl) (by kernel_rfl) (by kernel_rfl) (by kernel_rfl) (by kernel_rfl) (by kernel_rfl) (fun _ _ _ h => h) (Or.inl ⟨by rfl, ?hyr84⟩) hS0xx ?restr84
    case hyr84 => ((intro w hSw; (try dsimp only at hSw); go_simp) <;> with_reducible rfl)
    try simp only [Act.put, List.setIfInBounds_toArray, List.set_cons_zero, List.set_cons_succ]
    refine RegL.wpAnyL_take (i := 6) (oi := ⟨some 52, Op.load 30 (Operand.tmp 13), _, _, _, _⟩) (v := ?vvr85) rfl (by kernel_rfl) (by kernel_rfl) (by kernel_rfl) (by kernel_rfl) (by kernel_rfl) (by kernel_rfl) (fun _ _ _ h => h) (Or.inl ⟨by rfl, ?hyr85⟩) hS0xx ?restr85
    case hyr85 => ((intro w hSw; (try dsimp only at hSw); go_simp) <;> with_reducible rfl)
    try simp only [Act.put, List.setIfInBounds_toArray, List.set_cons_zero, List.set_cons_succ]
    refine RegL.wpAnyL_take (i := 7) (oi := ⟨some 53, Op.move (Operand.tmp 15), _, _, _, _⟩) (v := ?vvr86) rfl (by kernel_rfl) (by kernel_rfl) (by kernel_rfl) (by kernel_rfl) (by kernel_rfl) (by kernel_rfl) (fun _ _ _ h => h) (Or.inl ⟨by rfl, ?hyr86⟩) hS0xx ?restr86
    case hyr86 => ((intro w hSw; (try dsimp only at hSw); go_simp) <;> with_reducible rfl)
    try simp only [Act.put, List.setIfInBounds_toArray, List.set_cons_zero, List.set_cons_succ]
    refine RegL.wpAnyL_take (i := 10) (oi := ⟨some 56, Op.load 30 (Operand.tmp 11), _, _, _, _⟩) (v := ?vvr87) rfl (by kernel_rfl) (by kernel_rfl) (by kernel_rfl) (by kernel_rfl) (by kernel_rfl) (by kernel_rfl) (fun _ _ _ h => h) (Or.inl ⟨by rfl, ?hyr87⟩) hS0xx ?restr87
    case hyr87 => ((intro w hSw; (try dsimp only at hSw); go_simp) <;> with_reducible rfl)
    try simp only [Act.put, List.setIfInBounds_toArray, List.set_cons_zero, List.set_cons_succ]
    refine RegL.wpAnyL_ready (rs := [8]) (by kernel_rfl) (by simp) ?_
    refine RegL.AllReadyL.calm (o := ⟨some 54, Op.call { callee := Callee.value (Operand.func 55), args := #[Operand.tmp 53], argTypes := #[78] }, _, _, _, _⟩) rfl (fun K hK => ?_) RegL.AllReadyL.nil
    go_simp
    refine (HTN.out _ _ (HC5.out.below hb2)).mono ?_
    rintro e u3 ⟨v, rfl, hm3, hk3⟩
    obtain ⟨AE, ce, he⟩ := hm3.form
    rw [List.length_map] at he
    subst he
    have hb3 := below_trans hb2 hk3
    (try dsimp only)
    refine hK.out _ _ (⟨⟨cell_below hS0xx.1.1 hk3, cell_below hS0xx.1.2.1 hk3, cell_below hS0xx.1.2.2.1 hk3, cell_below hS0xx.1.2.2.2 hk3⟩, cell_below hS0xx.2.1 hk3, cell_below hS0xx.2.2.1 hk3, cell_below hS0xx.2.2.2.1 hk3, cell_below hS0xx.2.2.2.2 hk3⟩) (fun hS0xxx => ?_)
    clear hK K
    try simp only [Act.put, List.setIfInBounds_toArray, List.set_cons_zero, List.set_cons_succ]
    refine RegL.wpAnyL_ready (rs := [9]) (by kernel_rfl) (by simp) ?_
    refine RegL.AllReadyL.calm (o := ⟨some 55, Op.call { callee := Callee.value (Operand.func 58), args := #[Operand.tmp 52, Operand.tmp 54], argTypes := #[30, 78] }, _, _, _, _⟩) rfl (fun K hK => ?_) RegL.AllReadyL.nil
    go_simp
    refine (HAQ.out _ _ _ _ (below_trans H5.out hb3) (List.length_map ..).symm hm3).mono ?_
    rintro e u4 ⟨v, rfl, ⟨n6, p6, rfl, hm4⟩, hk4⟩
    have hb4 := below_trans hb3 hk4
    (try dsimp only)
    refine hK.out _ _ (⟨⟨cell_below hS0xxx.1.1 hk4, cell_below hS0xxx.1.2.1 hk4, cell_below hS0xxx.1.2.2.1 hk4, cell_below hS0xxx.1.2.2.2 hk4⟩, cell_below hS0xxx.2.1 hk4, cell_below hS0xxx.2.2.1 hk4, cell_below hS0xxx.2.2.2.1 hk4, cell_below hS0xxx.2.2.2.2 hk4⟩) (fun hS0xxxx => ?_)
    clear hK K
    try simp only [Act.put, List.setIfInBounds_toArray, List.set_cons_zero, List.set_cons_succ]
    refine RegL.wpAnyL_ready (rs := [11]) (by kernel_rfl) (by simp) ?_
    refine RegL.AllReadyL.calm (o := ⟨some 57, Op.call { callee := Callee.value (Operand.func 63), args := #[Operand.tmp 55, Operand.tmp 56], argTypes := #[30, 30] }, _, _, _, _⟩) rfl (fun K hK => ?_) RegL.AllReadyL.nil
    go_simp
    refine (HA2.out _ _ (below_trans H5.out hb4) hm4).mono ?_
    rintro e u5 ⟨v, rfl, rfl, hk5⟩
    have hb5 := below_trans hb4 hk5
    (try dsimp only)
    refine hK.out _ _ (⟨⟨cell_below hS0xxxx.1.1 hk5, cell_below hS0xxxx.1.2.1 hk5, cell_below hS0xxxx.1.2.2.1 hk5, cell_below hS0xxxx.1.2.2.2 hk5⟩, cell_below hS0xxxx.2.1 hk5, cell_below hS0xxxx.2.2.1 hk5, cell_below hS0xxxx.2.2.2.1 hk5, cell_below hS0xxxx.2.2.2.2 hk5⟩) (fun hS0xxxxx => ?_)
    clear hK K
    try simp only [Act.put, List.setIfInBounds_toArray, List.set_cons_zero, List.set_cons_succ]
    refine RegL.wpAnyL_take (i := 12) (oi := ⟨some 58, Op.pick (Operand.tmp 51) (Operand.tmp 57) (Operand.const (Value.bool false)), _, _, _, _⟩) (v := ?vvr88) rfl (by kernel_rfl) (by kernel_rfl) (by kernel_rfl) (by kernel_rfl) (by kernel_rfl) (by kernel_rfl) (fun _ _ _ h => h) (Or.inl ⟨by rfl, ?hyr88⟩) hS0xxxxx ?restr88
    case hyr88 => ((intro w hSw; (try dsimp only at hSw); go_simp) <;> with_reducible rfl)
    try simp only [Act.put, List.setIfInBounds_toArray, List.set_cons_zero, List.set_cons_succ]
    refine RegL.wpAnyL_take (i := 13) (oi := ⟨some 59, Op.move (Operand.tmp 58), _, _, _, _⟩) (v := ?vvr89) rfl (by kernel_rfl) (by kernel_rfl) (by kernel_rfl) (by kernel_rfl) (by kernel_rfl) (by kernel_rfl) (fun _ _ _ h => h) (Or.inl ⟨by rfl, ?hyr89⟩) hS0xxxxx ?restr89
    case hyr89 => ((intro w hSw; (try dsimp only at hSw); go_simp) <;> with_reducible rfl)
    try simp only [Act.put, List.setIfInBounds_toArray, List.set_cons_zero, List.set_cons_succ]
    refine RegL.wpAnyL_take (i := 14) (oi := ⟨some 60, Op.move (Operand.tmp 4), _, _, _, _⟩) (v := ?vvr810) rfl (by kernel_rfl) (by kernel_rfl) (by kernel_rfl) (by kernel_rfl) (by kernel_rfl) (by kernel_rfl) (fun _ _ _ h => h) (Or.inl ⟨by rfl, ?hyr810⟩) hS0xxxxx ?restr810
    case hyr810 => ((intro w hSw; (try dsimp only at hSw); go_simp) <;> with_reducible rfl)
    try simp only [Act.put, List.setIfInBounds_toArray, List.set_cons_zero, List.set_cons_succ]
    refine RegL.wpAnyL_take (i := 15) (oi := ⟨some 61, Op.unOp UnOp.not 4 (Operand.tmp 60), _, _, _, _⟩) (v := ?vvr811) rfl (by kernel_rfl) (by kernel_rfl) (by kernel_rfl) (by kernel_rfl) (by kernel_rfl) (by kernel_rfl) (fun _ _ _ h => h) (Or.inl ⟨by rfl, ?hyr811⟩) hS0xxxxx ?restr811
    case hyr811 => ((intro w hSw; (try dsimp only at hSw); go_simp) <;> with_reducible rfl)
    try simp only [Act.put, List.setIfInBounds_toArray, List.set_cons_zero, List.set_cons_succ]
    refine RegL.wpAnyL_take (i := 16) (oi := ⟨some 62, Op.move (Operand.tmp 61), _, _, _, _⟩) (v := ?vvr812) rfl (by kernel_rfl) (by kernel_rfl) (by kernel_rfl) (by kernel_rfl) (by kernel_rfl) (by kernel_rfl) (fun _ _ _ h => h) (Or.inl ⟨by rfl, ?hyr812⟩) hS0xxxxx ?restr812
    case hyr812 => ((intro w hSw; (try dsimp only at hSw); go_simp) <;> with_reducible rfl)
    try simp only [Act.put, List.setIfInBounds_toArray, List.set_cons_zero, List.set_cons_succ]
    refine RegL.wpAnyL_take (i := 17) (oi := ⟨some 63, Op.move (Operand.tmp 15), _, _, _, _⟩) (v := undef) rfl (by kernel_rfl) (by kernel_rfl) (by kernel_rfl) (by kernel_rfl) (by kernel_rfl) (by kernel_rfl) (fun _ _ _ h => h) (Or.inr ⟨by rfl, rfl⟩) hS0xxxxx ?restr813
    try simp only [Act.put, List.setIfInBounds_toArray, List.set_cons_zero, List.set_cons_succ]
    refine RegL.wpAnyL_take (i := 18) (oi := ⟨some 64, Op.call { callee := Callee.builtin Builtin.len, args := #[Operand.tmp 63], argTypes := #[78] }, _, _, _, _⟩) (v := undef) rfl (by kernel_rfl) (by kernel_rfl) (by kernel_rfl) (by kernel_rfl) (by kernel_rfl) (by kernel_rfl) (fun _ _ _ h => h) (Or.inr ⟨by rfl, rfl⟩) hS0xxxxx ?restr814
    try simp only [Act.put, List.setIfInBounds_toArray, List.set_cons_zero, List.set_cons_succ]
    refine RegL.wpAnyL_take (i := 19) (oi := ⟨some 65, Op.binOp BinOp.eql 3 (Operand.tmp 64) (Operand.const (Value.int IntKind.i64 0)) 3, _, _, _, _⟩) (v := undef) rfl (by kernel_rfl) (by kernel_rfl) (by kernel_rfl) (by kernel_rfl) (by kernel_rfl) (by kernel_rfl) (fun _ _ _ h => h) (Or.inr ⟨by rfl, rfl⟩) hS0xxxxx ?restr815
    try simp only [Act.put, List.setIfInBounds_toArray, List.set_cons_zero, List.set_cons_succ]
    refine RegL.wpAnyL_take (i := 20) (oi := ⟨some 66, Op.pick (Operand.tmp 62) (Operand.const (Value.bool true)) (Operand.tmp 65), _, _, _, _⟩) (v := ?vvr816) rfl (by kernel_rfl) (by kernel_rfl) (by kernel_rfl) (by kernel_rfl) (by kernel_rfl) (by kernel_rfl) (fun _ _ _ h => h) (Or.inl ⟨by rfl, ?hyr816⟩) hS0xxxxx ?restr816
    case hyr816 => ((intro w hSw; (try dsimp only at hSw); go_simp) <;> with_reducible rfl)
    try simp only [Act.put, List.setIfInBounds_toArray, List.set_cons_zero, List.set_cons_succ]
    refine RegL.wpAnyL_take (i := 21) (oi := ⟨some 67, Op.pick (Operand.tmp 59) (Operand.tmp 66) (Operand.const (Value.bool false)), _, _, _, _⟩) (v := ?vvr817) rfl (by kernel_rfl) (by kernel_rfl) (by kernel_rfl) (by kernel_rfl) (by kernel_rfl) (by kernel_rfl) (fun _ _ _ h => h) (Or.inl ⟨by rfl, ?hyr817⟩) hS0xxxxx ?restr817
    case hyr817 => ((intro w hSw; (try dsimp only at hSw); go_simp) <;> with_reducible rfl)
    try simp only [Act.put, List.setIfInBounds_toArray, List.set_cons_zero, List.set_cons_succ]
    refine RegL.wpAnyL_take (i := 22) (oi := ⟨some 10, Op.assign (Operand.tmp 67), _, _, _, _⟩) (v := ?vvr818) rfl (by kernel_rfl) (by kernel_rfl) (by kernel_rfl) (by kernel_rfl) (by kernel_rfl) (by kernel_rfl) (fun _ _ _ h => h) (Or.inl ⟨by rfl, ?hyr818⟩) hS0xxxxx ?restr818
    case hyr818 => ((intro w hSw; (try dsimp only at hSw); go_simp) <;> with_reducible rfl)
    try simp only [Act.put, List.setIfInBounds_toArray, List.set_cons_zero, List.set_cons_succ]
    refine RegL.wpAnyL_done (by kernel_rfl) ?_ _
    refine NoPanic.normal ?_
    have HEND := Lib.hid (below_trans HWW.out (below_trans H5.out hb5))
    go_wp2_with fail
    go_returns
    exact ⟨rfl, HEND.out⟩
  | true =>
    have hgl := HGL.out
    have hgh : g ≠ h := by omega
    have hgh2 : ¬ h = g := by omega
    have hnK : ¬ ((fun _ => True) h ∧ h < h) := fun k => by have := k.2; omega
    have HBA := Lib.hid (show ((((V.setCell ⟨h, 0, none⟩ (.int .u64 y)).setCell ⟨h, 1, none⟩ (.int .i64 b)).setCell ⟨h, 2, none⟩ (.int .i64 n)).setCell ⟨h, 3, none⟩ (.pointer p)).heap[g]? = some (.cells #[.int .u64 y, .int .i64 b, .int .i64 n, .pointer p] MT (0, 0)) from blk_far (blk_far (blk_far (blk_far HBMA.out (p := ⟨h, 0, none⟩) hgh _) (p := ⟨h, 1, none⟩) hgh _) (p := ⟨h, 2, none⟩) hgh _) (p := ⟨h, 3, none⟩) hgh _)
    have HBB := Lib.hid (show ((((V.setCell ⟨h, 0, none⟩ (.int .u64 y)).setCell ⟨h, 1, none⟩ (.int .i64 b)).setCell ⟨h, 2, none⟩ (.int .i64 n)).setCell ⟨h, 3, none⟩ (.pointer p)).heap[h]? = some (.cells #[.int .u64 y, .int .i64 b, .int .i64 n, .pointer p] MT (0, 0)) from put4 HBMB.out)
    have HMAv := Lib.hid (mapv_far (mapv_far (mapv_far (mapv_far HMA.out h 0 (.int .u64 y) hnK) h 1 (.int .i64 b) hnK) h 2 (.int .i64 n) hnK) h 3 (.pointer p) hnK)
    have HMBv := HMAv
    have hWh : W.heap.size ≤ h := HWH.out
    have HWW := Lib.hid (show Below W.heap.size W ((((V.setCell ⟨h, 0, none⟩ (.int .u64 y)).setCell ⟨h, 1, none⟩ (.int .i64 b)).setCell ⟨h, 2, none⟩ (.int .i64 n)).setCell ⟨h, 3, none⟩ (.pointer p)) from (((HWV.out.setCell (p := ⟨h, 0, none⟩) hWh _).setCell (p := ⟨h, 1, none⟩) hWh _).setCell (p := ⟨h, 2, none⟩) hWh _).setCell (p := ⟨h, 3, none⟩) hWh _)
    have HTW := Lib.hid (HT.out.below HWW.out)
    obtain ⟨⟨a0, a1, a2, a3⟩, -⟩ := box4 HBMA.out
    obtain ⟨⟨e0, e1, e2, e3⟩, f0, f1, f2, f3⟩ := box4 HBMB.out
    go_upto_region 7 with fail
    clear a0 a1 a2 a3 e0 e1 e2 e3 f0 f1 f2 f3 HBMA HBMB HMA HMB HRA HRB HBRA HBRB HGL HWV HTV
    generalize (((V.setCell ⟨h, 0, none⟩ (.int .u64 y)).setCell ⟨h, 1, none⟩ (.int .i64 b)).setCell ⟨h, 2, none⟩ (.int .i64 n)).setCell ⟨h, 3, none⟩ (.pointer p) = VF at *
    have hS1 := (mform HMAv.out).choose_spec.choose_spec.choose_spec.choose_spec.2.2.1
    have hS2 := (mform HMBv.out).choose_spec.choose_spec.choose_spec.choose_spec.2.2.1
    have hSm1 := (mform HMAv.out).choose_spec.choose_spec.choose_spec.choose_spec.2.2.2
    have hSm2 := (mform HMBv.out).choose_spec.choose_spec.choose_spec.choose_spec.2.2.2
    obtain ⟨DD, hDD⟩ : ∃ DD, DD = diffL eqI LA LA := ⟨_, rfl⟩
    obtain ⟨hk1, hk2, hk3, -⟩ := diff_all eqI _ LA LA (Nat.le_refl _) hS1 hS2
    rw [← hDD] at hk1 hk2 hk3
    have hks : ∀ x ∈ DD, x.f0.size ≤ 1000000 := fun x hx => by
      rcases hk1 x hx with ⟨e, he, h⟩ | ⟨e, he, h⟩
      · rw [← h]; exact hSm1 e he
      · rw [← h]; exact hSm2 e he
    have hks' : ∀ x ∈ DD.map trn, x.f0.size ≤ 1000000 := fun x hx => by
      obtain ⟨z, hz, rfl⟩ := List.mem_map.1 hx
      exact hks z hz
    have hD1 : DD.length ≤ 200 := by omega
    have HCH := Lib.hid fun V' (hV : Below VF.heap.size VF V') => (show Calls Tryd.prog 49 #[.agg #[.int .u64 y, .int .i64 b, .int .i64 n, .pointer p], .agg #[.int .u64 y, .int .i64 b, .int .i64 n, .pointer p], .func (.func 69) #[] #[]] V' (Ret (fun u w' => ChV w' u DD) V') from hDD ▸ changes_eq c c _ _ LA LA y b n p y b n p eqI V' (HMAv.out.below hV) (HMBv.out.below hV) hLA2 hLA2 (HTW.out.below hV) (fun x z V'' _ => equal_c x z V''))
    have HAP := Lib.hid fun (A : Option Addr) (N cs : Nat) V' (hV : Below VF.heap.size VF V') (hN : N = DD.length) (hu : ChV V' (.slice A N cs) DD) => (show Calls Tryd.prog 58 #[.agg #[.int .u64 y, .int .i64 b, .int .i64 n, .pointer p], .slice A N cs] V' (Ret (fun u w' => Gives c y b LA u w') V') from (show appL LA DD = LA from hDD ▸ appL_diff hS1 hS2) ▸ apply_w c _ LA DD y b n p A cs N V' HY.out HBE.out (HMAv.out.below hV) hu hN (by omega) hks (HTW.out.below hV))
    have HAQ := Lib.hid fun (A : Option Addr) (N cs : Nat) V' (hV : Below VF.heap.size VF V') (hN : N = (DD.map trn).length) (hu : ChV V' (.slice A N cs) (DD.map trn)) => (show Calls Tryd.prog 58 #[.agg #[.int .u64 y, .int .i64 b, .int .i64 n, .pointer p], .slice A N cs] V' (Ret (fun u w' => Gives c y b LA u w') V') from (show appL LA (DD.map trn) = LA from hDD ▸ appL_turn hS1 hS2) ▸ apply_w c _ LA (DD.map trn) y b n p A cs N V' HY.out HBE.out (HMBv.out.below hV) hu hN (by rw [List.length_map]; omega) hks' (HTW.out.below hV))
    have HTN := Lib.hid fun (u : Value) V' (hu : ChV V' u DD) => turned_c u DD (by omega) V' hu
    have HA1 := Lib.hid fun (r : Value) V' (hV : Below VF.heap.size VF V') (hr : MapV c (fun _ => True) V' r LA) => alike_c c c _ _ r (.agg #[.int .u64 y, .int .i64 b, .int .i64 n, .pointer p]) LA V' hr (HMBv.out.below hV) hLA2 (HTW.out.below hV)
    have HA2 := Lib.hid fun (r : Value) V' (hV : Below VF.heap.size VF V') (hr : MapV c (fun _ => True) V' r LA) => alike_c c c _ _ r (.agg #[.int .u64 y, .int .i64 b, .int .i64 n, .pointer p]) LA V' hr (HMAv.out.below hV) hLA2 (HTW.out.below hV)
    have HZL : Hid (DD.length = 0) := Lib.hid (by rw [hDD, diff_self]; rfl)
    have HBX := Lib.hid (Below.refl VF.heap.size VF)
    clear hS1 hS2 hSm1 hSm2 hk1 hk2 hk3 hks hks' hLA hLA2 hDD
    obtain ⟨⟨a0, a1, a2, a3⟩, -⟩ := box4 HBA.out
    obtain ⟨⟨c0, c1, c2, c3⟩, -⟩ := box4 HBB.out
    go_upto_region 8 with (first
      | (go_at_call 49; ((with_reducible refine (HCH.out _ HBX.out).mono ?_); rintro e w5 ⟨v, rfl, hc5, hb5⟩; obtain ⟨AD, cd, he⟩ := hc5.form; subst he; have HC5 := Lib.hid hc5; have H5 := Lib.hid hb5; clear hc5 hb5))
      | fail)
    clear a0 a1 a2 a3 c0 c1 c2 c3
    obtain ⟨nd, hnd⟩ : ∃ nd, nd = DD.length := ⟨_, rfl⟩
    rw [← hnd] at HC5 ⊢
    have HND := Lib.hid hnd
    have hz : nd = 0 := hnd.trans HZL.out
    subst hz
    clear hnd hD1
    obtain ⟨⟨a0, a1, a2, a3⟩, -⟩ := box4 (blk_below HBA.out H5.out)
    obtain ⟨⟨c0, c1, c2, c3⟩, -⟩ := box4 (blk_below HBB.out H5.out)
    go_region_held3 (fun w' => (w'.cell? ⟨g, 0, none⟩ = some (.int .u64 y) ∧ w'.cell? ⟨g, 1, none⟩ = some (.int .i64 b) ∧ w'.cell? ⟨g, 2, none⟩ = some (.int .i64 n) ∧ w'.cell? ⟨g, 3, none⟩ = some (.pointer p)) ∧ w'.cell? ⟨h, 0, none⟩ = some (.int .u64 y) ∧ w'.cell? ⟨h, 1, none⟩ = some (.int .i64 b) ∧ w'.cell? ⟨h, 2, none⟩ = some (.int .i64 n) ∧ w'.cell? ⟨h, 3, none⟩ = some (.pointer p))
      ((refine ⟨⟨?_, ?_, ?_, ?_⟩, ?_, ?_, ?_, ?_⟩ <;> first | (with_reducible assumption) | (with_reducible exact cell_below a0 (by assumption)) | (with_reducible exact cell_below a1 (by assumption)) | (with_reducible exact cell_below a2 (by assumption)) | (with_reducible exact cell_below a3 (by assumption)) | (with_reducible exact cell_below c0 (by assumption)) | (with_reducible exact cell_below c1 (by assumption)) | (with_reducible exact cell_below c2 (by assumption)) | (with_reducible exact cell_below c3 (by assumption)) | (go_keep; done)))
      (first
        | (go_at_call 58; (with_reducible refine (HAP.out _ _ _ _ H5.out.drew HND.out (HC5.out.below ((Below.refl _ _).drew))).mono ?_); rintro e u1 ⟨v, rfl, ⟨n5, p5, rfl, hm1⟩, hk1⟩; have hb1 := below_trans (w1 := World.drew _) (Below.refl _ _).drew hk1)
        | (go_at_call 63; (with_reducible refine (HA1.out _ _ (below_trans H5.out hb1) hm1).mono ?_); rintro e u2 ⟨v, rfl, rfl, hk2⟩; have hb2 := below_trans hb1 hk2)
        | (go_at_call 55; (with_reducible refine (HTN.out _ _ (HC5.out.below hb2)).mono ?_); rintro e u3 ⟨v, rfl, hm3, hk3⟩; obtain ⟨AE, ce, he⟩ := hm3.form; rw [List.length_map] at he; subst he; have hb3 := below_trans hb2 hk3)
        | (go_at_call 58; (with_reducible refine (HAQ.out _ _ _ _ (below_trans H5.out hb3) (List.length_map ..).symm hm3).mono ?_); rintro e u4 ⟨v, rfl, ⟨n6, p6, rfl, hm4⟩, hk4⟩; have hb4 := below_trans hb3 hk4)
        | (go_at_call 63; (with_reducible refine (HA2.out _ _ (below_trans H5.out hb4) hm4).mono ?_); rintro e u5 ⟨v, rfl, rfl, hk5⟩; have hb5 := below_trans hb4 hk5)
        | fail)
    have HEND := Lib.hid (below_trans HWW.out (below_trans H5.out hb5))
    go_wp2_with fail
    go_returns
    exact ⟨rfl, HEND.out⟩

set_option maxHeartbeats 4000000 in
theorem back_out (c d : Cf) (va vb : Value) (T T' : Nat) (A A' : Option Addr) (cs cs' : Nat) (self : Bool) (b1 b2 : Bool) (W : World) (hv : va = .slice A T cs) (hv' : vb = .slice A' T' cs') (hT : Tab W) (hn : b1 = false ∨ (b1 = true ∧ b2 = false))
    (hf : ∀ V, Below W.heap.size W V → Calls Tryd.prog 37 #[va] V (Ret (fun u _ => u = .bool b1) V)) (hf' : ∀ V, Below W.heap.size W V → Calls Tryd.prog 37 #[vb] V (Ret (fun u _ => u = .bool b2) V)) :
    Calls Tryd.prog 16 #[confV c, confV d, va, vb, .bool self] W (Tru W) := by
  subst hv; subst hv'
  have HT := Lib.hid hT; have HFA := Lib.hid hf; have HFB := Lib.hid hf'
  have HLV := Lib.hid (fun V hT => livep_c V hT)
  show Calls Tryd.prog 16 #[.agg #[.int .u64 (U c.1), .int .i64 c.2], .agg #[.int .u64 (U d.1), .int .i64 d.2], .slice A T cs, .slice A' T' cs', .bool self] W _
  generalize U c.1 = y
  generalize c.2 = b
  generalize U d.1 = y'
  generalize d.2 = b'
  clear hT hf hf'
  rcases hn with rfl | ⟨rfl, rfl⟩
  · go_enter Tryd.func16, Tryd.ntmps16
    have hB0 := ((Below.refl W.heap.size W).alloc (Nat.le_refl _) (.cells #[.int .u64 y, .int .i64 b] CT)).alloc (by simp) (.cells #[.int .u64 y', .int .i64 b'] CT)
    go_wp2_with (first
      | (go_at_call 37; ((with_reducible refine (HFB.out _ HB1.out).mono ?_); rintro e w2 ⟨v, rfl, rfl, hb2⟩; have HB2 := Lib.hid (below_trans HB1.out hb2); clear hb2))
      | (go_at_call 37; ((with_reducible refine (HFA.out _ HBL.out).mono ?_); rintro e w2 ⟨v, rfl, rfl, hb2⟩; have HB1 := Lib.hid (below_trans HBL.out hb2); have HB2 := Lib.hid (below_trans HBL.out hb2); clear hb2))
      | (go_at_call 36; ((with_reducible refine (HLV.out _ (HT.out.below HB2.out)).mono ?_); rintro e w3 ⟨v, rfl, rfl, hb3⟩; have HB3 := Lib.hid (below_trans HB2.out hb3); clear hb3))
      | (go_at_call 36; ((with_reducible refine (HLV.out _ (HT.out.below hB0)).mono ?_); rintro e w1 ⟨v, rfl, rfl, hb1⟩; have HBL := Lib.hid (below_trans hB0 hb1); clear hb1))
      | fail)
    go_returns
    exact ⟨rfl, HB3.out⟩
  · go_enter Tryd.func16, Tryd.ntmps16
    have hB0 := ((Below.refl W.heap.size W).alloc (Nat.le_refl _) (.cells #[.int .u64 y, .int .i64 b] CT)).alloc (by simp) (.cells #[.int .u64 y', .int .i64 b'] CT)
    go_wp2_with (first
      | (go_at_call 37; ((with_reducible refine (HFB.out _ HB1.out).mono ?_); rintro e w2 ⟨v, rfl, rfl, hb2⟩; have HB2 := Lib.hid (below_trans HB1.out hb2); clear hb2))
      | (go_at_call 37; ((with_reducible refine (HFA.out _ HBL.out).mono ?_); rintro e w2 ⟨v, rfl, rfl, hb2⟩; have HB1 := Lib.hid (below_trans HBL.out hb2); have HB2 := Lib.hid (below_trans HBL.out hb2); clear hb2))
      | (go_at_call 36; ((with_reducible refine (HLV.out _ (HT.out.below HB2.out)).mono ?_); rintro e w3 ⟨v, rfl, rfl, hb3⟩; have HB3 := Lib.hid (below_trans HB2.out hb3); clear hb3))
      | (go_at_call 36; ((with_reducible refine (HLV.out _ (HT.out.below hB0)).mono ?_); rintro e w1 ⟨v, rfl, rfl, hb1⟩; have HBL := Lib.hid (below_trans hB0 hb1); clear hb1))
      | fail)
    go_returns
    exact ⟨rfl, HB3.out⟩

/-- CHANGES APPLIED, AND TURNED. -/
theorem back_c (c d : Cf) (va : Value) (oa : List S2) (vb : Value) (ob : List S2) (self : Bool) (W : World) (hT : Tab W) (hA : PairsV W va oa) (hB : PairsV W vb ob) : Calls Tryd.prog 16 #[confV c, confV d, va, vb, .bool self] W (Tru W) := by
  obtain ⟨b1, h1, hf1⟩ := fewp_c va oa W hA
  obtain ⟨b2, h2, hf2⟩ := fewp_c vb ob W hB
  obtain ⟨A, cs, hv, -⟩ := id hA
  obtain ⟨A', cs', hv', -⟩ := id hB
  cases b1 with
  | false => exact back_out c d va vb _ _ A A' cs cs' self false b2 W hv hv' hT (Or.inl rfl) hf1 hf2
  | true =>
    cases b2 with
    | false => exact back_out c d va vb _ _ A A' cs cs' self true false W hv hv' hT (Or.inr ⟨rfl, rfl⟩) hf1 hf2
    | true => exact back_in c d va oa vb ob self W hT hA hB (h1 rfl).1 (h1 rfl).2 (h2 rfl).1 (h2 rfl).2 hf1 hf2
end Go.Proofs.YtnegblckbomgdaaDoor.Ht
