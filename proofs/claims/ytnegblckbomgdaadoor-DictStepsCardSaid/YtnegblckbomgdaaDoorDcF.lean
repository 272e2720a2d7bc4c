/- The least key and the greatest one; what is next to a text, how many are below it, and the key of a rank: the walks. -/
import Derived.Test.YtnegblckbomgdaaDoorDcE
import Derived.Deep.DeepCutAuto
set_option linter.unusedVariables false
set_option linter.unusedSimpArgs false
namespace Go.Proofs.YtnegblckbomgdaaDoor.Ht
open Go Go.RowKit Go.Shelf Go.Proofs.YtnegblckbomgdaaDoor.Mem Go.Proofs.YtnegblckbomgdaaDoor.PA Go.Proofs.YtnegblckbomgdaaDoorW.PrintWords Go.Proofs.YtnegblckbomgdaaDoor.U64 Go.Proofs.YtnegblckbomgdaaDoor.Bs Go.Proofs.YtnegblckbomgdaaDoor

theorem ref_len {K : Nat → Prop} {w : World} {A1 A2 : Option Addr} {n1 c1 n2 c2 : Nat} {L : List Pr} (h : RefV K w (.agg #[.slice A1 n1 c1, .slice A2 n2 c2]) L) : n1 = L.length := by
  obtain ⟨s, t, e, h1, h2⟩ := h
  simp only [Value.agg.injEq, Array.mk.injEq, List.cons.injEq, and_true] at e
  obtain ⟨rfl, rfl⟩ := e
  obtain ⟨A, c, e⟩ := SlV.form' h1
  injection e with e1 e2 e3
  rw [e2, ksV_length]

set_option maxRecDepth 100000 in
set_option maxHeartbeats 8000000 in
theorem ends_in (c : Cf) (v : Value) (os : List S2) (W : World) (hT : Tab W) (hO : PairsV W v os) (hl : os.length ≤ 80) (hk : ∀ o ∈ os, o.f0.size ≤ 200)
    (hf : ∀ V, Below W.heap.size W V → Calls Tryd.prog 37 #[v] V (Ret (fun u _ => u = .bool true) V)) :
    Calls Tryd.prog 9 #[confV c, v] W (Tru W) := by
  obtain ⟨As, cs, rfl, -⟩ := id hO
  obtain ⟨y, hy⟩ : ∃ y, U c.1 = y := ⟨_, rfl⟩
  obtain ⟨b, hb⟩ : ∃ b, c.2 = b := ⟨_, rfl⟩
  have HT := Lib.hid hT; have HF := Lib.hid hf
  have HLV := Lib.hid (fun V hT => livep_c V hT)
  have HMD := Lib.hid (fun V (hV : Below W.heap.size W V) => (show Calls Tryd.prog 38 #[.agg #[.int .u64 y, .int .i64 b], .slice As os.length cs] V (Ret (fun u w' => Made c y b 80 u w') V) from made_w c _ os y b hy hb V (hO.below hV) hl hk))
  show Calls Tryd.prog 9 #[.agg #[.int .u64 (U c.1), .int .i64 c.2], .slice As os.length cs] W _
  rw [hy, hb]
  clear hy hb hO hl hk hT hf
  generalize os.length = T at HF HMD ⊢
  have BC0 := blk_new W (.cells #[.int .u64 y, .int .i64 b] CT)
  have hB0 := (Below.refl W.heap.size W).alloc (Nat.le_refl _) (.cells #[.int .u64 y, .int .i64 b] CT)
  have HB0 := Lib.hid hB0; have HC0 := Lib.hid BC0
  clear hB0 BC0
  go_enter Tryd.func9, Tryd.ntmps9
  go_upto_region 4 with (first
    | (go_at_call 36; ((with_reducible refine (HLV.out _ (HT.out.below HB0.out)).mono ?_); rintro e w1 ⟨v, rfl, rfl, hb1⟩; have HB1 := Lib.hid (below_trans HB0.out hb1); have HC1 := Lib.hid (blk_below HC0.out hb1); clear hb1))
    | (go_at_call 37; ((with_reducible refine (HF.out _ HB1.out).mono ?_); rintro e w2 ⟨v, rfl, rfl, hb2⟩; have HB2 := Lib.hid (below_trans HB1.out hb2); obtain ⟨⟨a0, a1⟩, -⟩ := box2 (blk_below HC1.out hb2); clear hb2))
    | (go_at_call 38; ((with_reducible refine (HMD.out _ HB2.out).mono ?_); rintro e w3 ⟨v, rfl, ⟨L, n, p, A1, n1, c1, A2, n2, c2, rfl, hL, hm, hr⟩, hb3⟩; have HB3 := Lib.hid (below_trans HB2.out hb3); have HM3 := Lib.hid hm; have HR3 := Lib.hid hr; clear hb3 hm hr))
    | fail)
  have HBM := Lib.hid (blk_alloc (blk_new w3 (.cells #[.int .u64 y, .int .i64 b, .int .i64 n, .pointer p] MT)) (.cells #[.slice A1 n1 c1, .slice A2 n2 c2] RT)); have HBR := Lib.hid (heap_k1 w3 (.cells #[.int .u64 y, .int .i64 b, .int .i64 n, .pointer p] MT) (.cells #[.slice A1 n1 c1, .slice A2 n2 c2] RT))
  have hal := ((Below.refl w3.heap.size w3).alloc (Nat.le_refl _) (.cells #[.int .u64 y, .int .i64 b, .int .i64 n, .pointer p] MT)).alloc (by simp) (.cells #[.slice A1 n1 c1, .slice A2 n2 c2] RT)
  have HM := Lib.hid (HM3.out.below hal); have HR := Lib.hid (HR3.out.below hal); have HW := Lib.hid (below_trans HB3.out hal)
  clear HM3 HR3 HB3 HB2 HB1 HC1 HC0 HB0 hal a0 a1 HMD HF HLV
  generalize (w3.alloc (.cells #[.int .u64 y, .int .i64 b, .int .i64 n, .pointer p] MT)).alloc (.cells #[.slice A1 n1 c1, .slice A2 n2 c2] RT) = V at *
  generalize w3.heap.size = g at *
  have HV := Lib.hid (Below.refl V.heap.size V)
  have hL2 : L.length ≤ 1000 := by omega
  have hL3 : L.length ≤ 1000000 := by omega
  have hT1 := HT.out.below HW.out
  obtain ⟨-, -, -, -, -, -, hS, hSm⟩ := mform HM.out
  obtain rfl : n1 = L.length := ref_len HR.out
  obtain ⟨⟨a0, a1, a2, a3⟩, -⟩ := box4 HBM.out
  have HC1 := Lib.hid (fun V' (hV : Below V.heap.size V V') => (show Calls Tryd.prog 39 #[.agg #[.int .u64 y, .int .i64 b, .int .i64 n, .pointer p]] V' (Ret (fun u _ => u = plcV L 0) V') from first_q c _ _ L V' (HM.out.below hV) hL2 (hT1.below hV)))
  have HC2 := Lib.hid (fun V' (hV : Below V.heap.size V V') => (show Calls Tryd.prog 40 #[.agg #[.slice A1 L.length c1, .slice A2 n2 c2], .int .i64 0] V' (Ret (fun u _ => u = plcV L 0) V') from refplace_c _ _ L 0 V' (HR.out.below hV)))
  have HC3 := Lib.hid (fun V' (hV : Below V.heap.size V V') => (show Calls Tryd.prog 41 #[.agg #[.int .u64 y, .int .i64 b, .int .i64 n, .pointer p]] V' (Ret (fun u _ => u = plcV L ((L.length : Int) - 1)) V') from last_q c _ _ L V' (HM.out.below hV) hL2 (hT1.below hV)))
  have HC4 := Lib.hid (fun (i : Int) (hi : i = (L.length : Int) - 1) V' (hV : Below V.heap.size V V') => (show Calls Tryd.prog 40 #[.agg #[.slice A1 L.length c1, .slice A2 n2 c2], .int .i64 i] V' (Ret (fun u _ => u = plcV L ((L.length : Int) - 1)) V') from hi ▸ refplace_c _ _ L i V' (HR.out.below hV)))
  have HWR := Lib.hid (show wrap64 ((L.length : Int) - 1) = (L.length : Int) - 1 from w64_in (by omega) (by omega))
  unfold plcV at HC1 HC2
  generalize plc L 0 = r at HC1 HC2
  obtain ⟨s1, s2, s3⟩ := r
  dsimp only at HC1 HC2
  unfold plcV at HC3 HC4
  generalize plc L ((L.length : Int) - 1) = r at HC3 HC4
  obtain ⟨t1, t2, t3⟩ := r
  dsimp only at HC3 HC4
  clear hL hL2 hL3 hS hSm hT1 HM HR
  generalize L.length = n1 at *
  go_wp2_with (first
    | (go_at_call 39; ((with_reducible refine (HC1.out _ HV.out).mono ?_); rintro e w5 ⟨v, rfl, rfl, hb⟩; have H5 := Lib.hid (below_trans HV.out hb); obtain ⟨⟨r0, r1⟩, -⟩ := box2 (blk_below HBR.out H5.out); clear hb))
    | (go_at_call 40; ((with_reducible refine (HC2.out _ H5.out).mono ?_); rintro e w6 ⟨v, rfl, rfl, hb⟩; have H6 := Lib.hid (below_trans H5.out hb); obtain ⟨⟨a0, a1, a2, a3⟩, -⟩ := box4 (blk_below HBM.out H6.out); clear hb))
    | (go_at_call 41; ((with_reducible refine (HC3.out _ H6.out).mono ?_); rintro e w7 ⟨v, rfl, rfl, hb⟩; have H7 := Lib.hid (below_trans H6.out hb); obtain ⟨⟨r0, r1⟩, -⟩ := box2 (blk_below HBR.out H7.out); clear hb))
    | (go_at_call 40; ((with_reducible refine (HC4.out _ HWR.out _ H7.out).mono ?_); rintro e w8 ⟨v, rfl, rfl, hb⟩; have H8 := Lib.hid (below_trans H7.out hb); clear hb))
    | (go_at_call 40; ((with_reducible refine (HC4.out _ rfl _ H7.out).mono ?_); rintro e w8 ⟨v, rfl, rfl, hb⟩; have H8 := Lib.hid (below_trans H7.out hb); clear hb))
    | fail)
  have HEND := Lib.hid (below_trans HW.out H8.out)
  go_returns
  exact ⟨rfl, HEND.out⟩

set_option maxRecDepth 100000 in
set_option maxHeartbeats 8000000 in
theorem asks_in (c : Cf) (v : Value) (os : List S2) (k : ByteArray) (i : Int) (hks : k.size ≤ 200) (W : World) (hT : Tab W) (hO : PairsV W v os) (hl : os.length ≤ 80) (hk : ∀ o ∈ os, o.f0.size ≤ 200)
    (hf : ∀ V, Below W.heap.size W V → Calls Tryd.prog 37 #[v] V (Ret (fun u _ => u = .bool true) V)) :
    Calls Tryd.prog 10 #[confV c, v, .string k, .int .i64 i] W (Tru W) := by
  obtain ⟨As, cs, rfl, -⟩ := id hO
  obtain ⟨y, hy⟩ : ∃ y, U c.1 = y := ⟨_, rfl⟩
  obtain ⟨b, hb⟩ : ∃ b, c.2 = b := ⟨_, rfl⟩
  have HT := Lib.hid hT; have HF := Lib.hid hf
  have HLV := Lib.hid (fun V hT => livep_c V hT)
  have HMD := Lib.hid (fun V (hV : Below W.heap.size W V) => (show Calls Tryd.prog 38 #[.agg #[.int .u64 y, .int .i64 b], .slice As os.length cs] V (Ret (fun u w' => Made c y b 80 u w') V) from made_w c _ os y b hy hb V (hO.below hV) hl hk))
  show Calls Tryd.prog 10 #[.agg #[.int .u64 (U c.1), .int .i64 c.2], .slice As os.length cs, .string k, .int .i64 i] W _
  rw [hy, hb]
  have hkI : ¬ (k.size : Int) > 200 := by omega
  clear hks hy hb hO hl hk hT hf
  generalize os.length = T at HF HMD ⊢
  have BC0 := blk_new W (.cells #[.int .u64 y, .int .i64 b] CT)
  have hB0 := (Below.refl W.heap.size W).alloc (Nat.le_refl _) (.cells #[.int .u64 y, .int .i64 b] CT)
  have HB0 := Lib.hid hB0; have HC0 := Lib.hid BC0
  clear hB0 BC0
  go_enter Tryd.func10, Tryd.ntmps10
  go_upto_region 4 with (first
    | (go_at_call 36; ((with_reducible refine (HLV.out _ (HT.out.below HB0.out)).mono ?_); rintro e w1 ⟨v, rfl, rfl, hb1⟩; have HB1 := Lib.hid (below_trans HB0.out hb1); have HC1 := Lib.hid (blk_below HC0.out hb1); clear hb1))
    | (go_at_call 37; ((with_reducible refine (HF.out _ HB1.out).mono ?_); rintro e w2 ⟨v, rfl, rfl, hb2⟩; have HB2 := Lib.hid (below_trans HB1.out hb2); obtain ⟨⟨a0, a1⟩, -⟩ := box2 (blk_below HC1.out hb2); clear hb2))
    | (go_at_call 38; ((with_reducible refine (HMD.out _ HB2.out).mono ?_); rintro e w3 ⟨v, rfl, ⟨L, n, p, A1, n1, c1, A2, n2, c2, rfl, hL, hm, hr⟩, hb3⟩; have HB3 := Lib.hid (below_trans HB2.out hb3); have HM3 := Lib.hid hm; have HR3 := Lib.hid hr; clear hb3 hm hr))
    | fail)
  have HBM := Lib.hid (blk_alloc (blk_new w3 (.cells #[.int .u64 y, .int .i64 b, .int .i64 n, .pointer p] MT)) (.cells #[.slice A1 n1 c1, .slice A2 n2 c2] RT)); have HBR := Lib.hid (heap_k1 w3 (.cells #[.int .u64 y, .int .i64 b, .int .i64 n, .pointer p] MT) (.cells #[.slice A1 n1 c1, .slice A2 n2 c2] RT))
  have hal := ((Below.refl w3.heap.size w3).alloc (Nat.le_refl _) (.cells #[.int .u64 y, .int .i64 b, .int .i64 n, .pointer p] MT)).alloc (by simp) (.cells #[.slice A1 n1 c1, .slice A2 n2 c2] RT)
  have HM := Lib.hid (HM3.out.below hal); have HR := Lib.hid (HR3.out.below hal); have HW := Lib.hid (below_trans HB3.out hal)
  clear HM3 HR3 HB3 HB2 HB1 HC1 HC0 HB0 hal a0 a1 HMD HF HLV
  generalize (w3.alloc (.cells #[.int .u64 y, .int .i64 b, .int .i64 n, .pointer p] MT)).alloc (.cells #[.slice A1 n1 c1, .slice A2 n2 c2] RT) = V at *
  generalize w3.heap.size = g at *
  have HV := Lib.hid (Below.refl V.heap.size V)
  have hL2 : L.length ≤ 1000 := by omega
  have hL3 : L.length ≤ 1000000 := by omega
  have hT1 := HT.out.below HW.out
  obtain ⟨-, -, -, -, -, -, hS, hSm⟩ := mform HM.out
  obtain rfl : n1 = L.length := ref_len HR.out
  obtain ⟨⟨a0, a1, a2, a3⟩, -⟩ := box4 HBM.out
  have HC1 := Lib.hid (fun V' (hV : Below V.heap.size V V') => (show Calls Tryd.prog 42 #[.agg #[.int .u64 y, .int .i64 b, .int .i64 n, .pointer p], .string k] V' (Ret (fun u _ => u = plcV L (nxt L k)) V') from next_c c _ _ L k V' (HM.out.below hV) hL2 (hT1.below hV)))
  have HC2 := Lib.hid (fun V' (hV : Below V.heap.size V V') => (show Calls Tryd.prog 43 #[.agg #[.slice A1 L.length c1, .slice A2 n2 c2], .string k] V' (Ret (fun u _ => u = plcV L (nxt L k)) V') from refnext_c _ _ L hS hSm hL3 k V' (HR.out.below hV)))
  have HC3 := Lib.hid (fun V' (hV : Below V.heap.size V V') => (show Calls Tryd.prog 44 #[.agg #[.int .u64 y, .int .i64 b, .int .i64 n, .pointer p], .string k] V' (Ret (fun u _ => u = plcV L ((rnk L k : Int) - 1)) V') from prev_c c _ _ L k V' (HM.out.below hV) hL2 (hT1.below hV)))
  have HC4 := Lib.hid (fun V' (hV : Below V.heap.size V V') => (show Calls Tryd.prog 45 #[.agg #[.slice A1 L.length c1, .slice A2 n2 c2], .string k] V' (Ret (fun u _ => u = plcV L ((rnk L k : Int) - 1)) V') from refprev_c _ _ L hS hSm hL3 k V' (HR.out.below hV)))
  have HC5 := Lib.hid (fun V' (hV : Below V.heap.size V V') => (show Calls Tryd.prog 46 #[.agg #[.int .u64 y, .int .i64 b, .int .i64 n, .pointer p], .int .i64 i] V' (Ret (fun u _ => u = plcV L i) V') from at_c c _ _ L i V' (HM.out.below hV) hL2 (hT1.below hV)))
  have HC6 := Lib.hid (fun V' (hV : Below V.heap.size V V') => (show Calls Tryd.prog 40 #[.agg #[.slice A1 L.length c1, .slice A2 n2 c2], .int .i64 i] V' (Ret (fun u _ => u = plcV L i) V') from refplace_c _ _ L i V' (HR.out.below hV)))
  have HC7 := Lib.hid (fun V' (hV : Below V.heap.size V V') => (show Calls Tryd.prog 47 #[.agg #[.int .u64 y, .int .i64 b, .int .i64 n, .pointer p], .string k] V' (Ret (fun u _ => u = .int .i64 (rnk L k : Int)) V') from rank_q c _ _ L k V' (HM.out.below hV) hL2 (hT1.below hV)))
  have HC8 := Lib.hid (fun V' (hV : Below V.heap.size V V') => (show Calls Tryd.prog 48 #[.agg #[.slice A1 L.length c1, .slice A2 n2 c2], .string k] V' (Ret (fun u _ => u = .int .i64 (rnk L k : Int)) V') from refrank_c _ _ L hS hSm hL3 k V' (HR.out.below hV)))
  unfold plcV at HC1 HC2
  generalize plc L (nxt L k) = r at HC1 HC2
  obtain ⟨s1, s2, s3⟩ := r
  dsimp only at HC1 HC2
  unfold plcV at HC3 HC4
  generalize plc L ((rnk L k : Int) - 1) = r at HC3 HC4
  obtain ⟨t1, t2, t3⟩ := r
  dsimp only at HC3 HC4
  unfold plcV at HC5 HC6
  generalize plc L i = r at HC5 HC6
  obtain ⟨u1, u2, u3⟩ := r
  dsimp only at HC5 HC6
  generalize (rnk L k : Int) = q at HC7 HC8
  clear hL hL2 hL3 hS hSm hT1 HM HR
  generalize L.length = n1 at *
  go_upto_region 10 with (first
    | (go_at_call 42; ((with_reducible refine (HC1.out _ HV.out).mono ?_); rintro e w5 ⟨v, rfl, rfl, hb⟩; have H5 := Lib.hid (below_trans HV.out hb); obtain ⟨⟨r0, r1⟩, -⟩ := box2 (blk_below HBR.out H5.out); clear hb))
    | (go_at_call 43; ((with_reducible refine (HC2.out _ H5.out).mono ?_); rintro e w6 ⟨v, rfl, rfl, hb⟩; have H6 := Lib.hid (below_trans H5.out hb); obtain ⟨⟨a0, a1, a2, a3⟩, -⟩ := box4 (blk_below HBM.out H6.out); clear hb))
    | (go_at_call 44; ((with_reducible refine (HC3.out _ H6.out).mono ?_); rintro e w7 ⟨v, rfl, rfl, hb⟩; have H7 := Lib.hid (below_trans H6.out hb); obtain ⟨⟨r0, r1⟩, -⟩ := box2 (blk_below HBR.out H7.out); clear hb))
    | (go_at_call 45; ((with_reducible refine (HC4.out _ H7.out).mono ?_); rintro e w8 ⟨v, rfl, rfl, hb⟩; have H8 := Lib.hid (below_trans H7.out hb); obtain ⟨⟨a0, a1, a2, a3⟩, -⟩ := box4 (blk_below HBM.out H8.out); clear hb))
    | (go_at_call 46; ((with_reducible refine (HC5.out _ H8.out).mono ?_); rintro e w9 ⟨v, rfl, rfl, hb⟩; have H9 := Lib.hid (below_trans H8.out hb); obtain ⟨⟨r0, r1⟩, -⟩ := box2 (blk_below HBR.out H9.out); clear hb))
    | (go_at_call 40; ((with_reducible refine (HC6.out _ H9.out).mono ?_); rintro e w10 ⟨v, rfl, rfl, hb⟩; have H10 := Lib.hid (below_trans H9.out hb); obtain ⟨⟨a0, a1, a2, a3⟩, -⟩ := box4 (blk_below HBM.out H10.out); obtain ⟨⟨r0, r1⟩, -⟩ := box2 (blk_below HBR.out H10.out); clear hb))
    | fail)
  go_region_held3 (fun w' => (w'.cell? ⟨g, 0, none⟩ = some (.int .u64 y) ∧ w'.cell? ⟨g, 1, none⟩ = some (.int .i64 b) ∧ w'.cell? ⟨g, 2, none⟩ = some (.int .i64 n) ∧ w'.cell? ⟨g, 3, none⟩ = some (.pointer p)) ∧ w'.cell? ⟨g + 1, 0, none⟩ = some (.slice A1 n1 c1) ∧ w'.cell? ⟨g + 1, 1, none⟩ = some (.slice A2 n2 c2))
    ((refine ⟨⟨?_, ?_, ?_, ?_⟩, ?_, ?_⟩ <;> first | (with_reducible assumption) | (with_reducible exact cell_below a0 (by assumption)) | (with_reducible exact cell_below a1 (by assumption)) | (with_reducible exact cell_below a2 (by assumption)) | (with_reducible exact cell_below a3 (by assumption)) | (with_reducible exact cell_below r0 (by assumption)) | (with_reducible exact cell_below r1 (by assumption)) | (go_keep; done)))
    (first
      | (go_at_call 47; (with_reducible refine (HC7.out _ H10.out.drew).mono ?_); rintro e u1 ⟨v, rfl, rfl, hc1⟩; have hb1 := below_trans (w1 := World.drew _) (Below.refl _ _).drew hc1)
      | (go_at_call 48; (with_reducible refine (HC8.out _ (below_trans H10.out hb1)).mono ?_); rintro e u2 ⟨v, rfl, rfl, hc2⟩; have hb2 := below_trans hb1 hc2)
      | fail)
  have HEND := Lib.hid (below_trans HW.out (below_trans H10.out hb2))
  go_wp2_with fail
  go_returns
  exact ⟨rfl, HEND.out⟩

set_option maxHeartbeats 4000000 in
theorem ends_out (c : Cf) (v : Value) (T : Nat) (A : Option Addr) (cs : Nat) (bf : Bool) (W : World) (hv : v = .slice A T cs) (hT : Tab W) (hn : bf = false)
    (hf : ∀ V, Below W.heap.size W V → Calls Tryd.prog 37 #[v] V (Ret (fun u _ => u = .bool bf) V)) :
    Calls Tryd.prog 9 #[confV c, v] W (Tru W) := by
  subst hv
  have HT := Lib.hid hT; have HF := Lib.hid hf
  have HLV := Lib.hid (fun V hT => livep_c V hT)
  show Calls Tryd.prog 9 #[.agg #[.int .u64 (U c.1), .int .i64 c.2], .slice A T cs] W _
  generalize U c.1 = y
  generalize c.2 = b
  clear hT hf
  subst hn
  go_enter Tryd.func9, Tryd.ntmps9
  have hB0 := (Below.refl W.heap.size W).alloc (Nat.le_refl _) (.cells #[.int .u64 y, .int .i64 b] CT)
  go_wp2_with (first
    | (go_at_call 37; ((with_reducible refine (HF.out _ HB1.out).mono ?_); rintro e w2 ⟨v, rfl, rfl, hb2⟩; have HB2 := Lib.hid (below_trans HB1.out hb2); clear hb2))
    | (go_at_call 36; ((with_reducible refine (HLV.out _ (HT.out.below HB2.out)).mono ?_); rintro e w3 ⟨v, rfl, rfl, hb3⟩; have HB3 := Lib.hid (below_trans HB2.out hb3); clear hb3))
    | (go_at_call 36; ((with_reducible refine (HLV.out _ (HT.out.below hB0)).mono ?_); rintro e w1 ⟨v, rfl, rfl, hb1⟩; have HB1 := Lib.hid (below_trans hB0 hb1); clear hb1))
    | fail)
  go_returns
  exact ⟨rfl, HB3.out⟩

/-- THE LEAST KEY AND THE GREATEST ONE. -/
theorem ends_c (c : Cf) (v : Value) (os : List S2) (W : World) (hT : Tab W) (hO : PairsV W v os) : Calls Tryd.prog 9 #[confV c, v] W (Tru W) := by
  obtain ⟨b, hb, hf⟩ := fewp_c v os W hO
  obtain ⟨A, cs, hv, -⟩ := id hO
  cases b with
  | false => exact ends_out c v os.length A cs false W hv hT rfl hf
  | true => exact ends_in c v os W hT hO (hb rfl).1 (hb rfl).2 hf

set_option maxHeartbeats 4000000 in
theorem asks_out (c : Cf) (v : Value) (T : Nat) (A : Option Addr) (cs : Nat) (k : ByteArray) (i : Int) (bf : Bool) (W : World) (hv : v = .slice A T cs) (hT : Tab W) (hn : bf = false ∨ (bf = true ∧ (k.size : Int) > 200))
    (hf : ∀ V, Below W.heap.size W V → Calls Tryd.prog 37 #[v] V (Ret (fun u _ => u = .bool bf) V)) :
    Calls Tryd.prog 10 #[confV c, v, .string k, .int .i64 i] W (Tru W) := by
  subst hv
  have HT := Lib.hid hT; have HF := Lib.hid hf
  have HLV := Lib.hid (fun V hT => livep_c V hT)
  show Calls Tryd.prog 10 #[.agg #[.int .u64 (U c.1), .int .i64 c.2], .slice A T cs, .string k, .int .i64 i] W _
  generalize U c.1 = y
  generalize c.2 = b
  clear hT hf
  rcases hn with rfl | ⟨rfl, hn⟩
  · go_enter Tryd.func10, Tryd.ntmps10
    have hB0 := (Below.refl W.heap.size W).alloc (Nat.le_refl _) (.cells #[.int .u64 y, .int .i64 b] CT)
    go_wp2_with (first
      | (go_at_call 37; ((with_reducible refine (HF.out _ HB1.out).mono ?_); rintro e w2 ⟨v, rfl, rfl, hb2⟩; have HB2 := Lib.hid (below_trans HB1.out hb2); clear hb2))
      | (go_at_call 36; ((with_reducible refine (HLV.out _ (HT.out.below HB2.out)).mono ?_); rintro e w3 ⟨v, rfl, rfl, hb3⟩; have HB3 := Lib.hid (below_trans HB2.out hb3); clear hb3))
      | (go_at_call 36; ((with_reducible refine (HLV.out _ (HT.out.below hB0)).mono ?_); rintro e w1 ⟨v, rfl, rfl, hb1⟩; have HB1 := Lib.hid (below_trans hB0 hb1); clear hb1))
      | fail)
    go_returns
    exact ⟨rfl, HB3.out⟩
  · go_enter Tryd.func10, Tryd.ntmps10
    have hB0 := (Below.refl W.heap.size W).alloc (Nat.le_refl _) (.cells #[.int .u64 y, .int .i64 b] CT)
    go_wp2_with (first
      | (go_at_call 37; ((with_reducible refine (HF.out _ HB1.out).mono ?_); rintro e w2 ⟨v, rfl, rfl, hb2⟩; have HB2 := Lib.hid (below_trans HB1.out hb2); clear hb2))
      | (go_at_call 36; ((with_reducible refine (HLV.out _ (HT.out.below HB2.out)).mono ?_); rintro e w3 ⟨v, rfl, rfl, hb3⟩; have HB3 := Lib.hid (below_trans HB2.out hb3); clear hb3))
      | (go_at_call 36; ((with_reducible refine (HLV.out _ (HT.out.below hB0)).mono ?_); rintro e w1 ⟨v, rfl, rfl, hb1⟩; have HB1 := Lib.hid (below_trans hB0 hb1); clear hb1))
      | fail)
    go_returns
    exact ⟨rfl, HB3.out⟩

/-- WHAT A MAP ANSWERS BY THE ORDER OF ITS KEYS. -/
theorem asks_c (c : Cf) (v : Value) (os : List S2) (k : ByteArray) (i : Int) (W : World) (hT : Tab W) (hO : PairsV W v os) : Calls Tryd.prog 10 #[confV c, v, .string k, .int .i64 i] W (Tru W) := by
  obtain ⟨b, hb, hf⟩ := fewp_c v os W hO
  obtain ⟨A, cs, hv, -⟩ := id hO
  cases b with
  | false => exact asks_out c v os.length A cs k i false W hv hT (Or.inl rfl) hf
  | true =>
    by_cases hks : k.size ≤ 200
    · exact asks_in c v os k i hks W hT hO (hb rfl).1 (hb rfl).2 hf
    · exact asks_out c v os.length A cs k i true W hv hT (Or.inr ⟨rfl, by omega⟩) hf
end Go.Proofs.YtnegblckbomgdaaDoor.Ht
