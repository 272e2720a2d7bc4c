/- What is inserted and removed again leaves all as it was, and what is removed and inserted: the law's walk. -/
import Derived.Test.YtcjpdjecgeenfaaRoAG
set_option linter.unusedVariables false
set_option linter.unusedSimpArgs false
namespace Go.Proofs.Ytcjpdjecgeenfaa.Ro
open Go Go.RowKit Go.Proofs.Ytcjpdjecgeenfaa.Mem Go.Proofs.YtcjpdjecgeenfaaW.PrintWords Go.Proofs.Ytcjpdjecgeenfaa.PRopeDoes

theorem back_ins (l : List Int) (i : Nat) (x : Int) (h : i ≤ l.length) : (l.take i ++ x :: l.drop i).take i ++ ((l.take i ++ x :: l.drop i).drop i).drop 1 = l ∧ (l.take i ++ x :: l.drop i)[i]? = some x := by
  have hl : (l.take i).length = i := by rw [List.length_take]; omega
  refine ⟨?_, ?_⟩
  · rw [List.take_append_of_le_length (l₁ := l.take i) (by omega), List.take_of_length_le (l := l.take i) (by omega), List.drop_append_of_le_length (l₁ := l.take i) (by omega), show (l.take i).drop i = [] from List.drop_eq_nil_of_le (by omega)]
    simp
  · rw [List.getElem?_append_right (by omega), hl]; simp

theorem back_rem (l : List Int) (i : Nat) (y : Int) (h : l[i]? = some y) : (l.take i ++ (l.drop i).drop 1).take i ++ y :: (l.take i ++ (l.drop i).drop 1).drop i = l := by
  obtain ⟨hi, hy⟩ := List.getElem?_eq_some_iff.1 h
  have hl : (l.take i).length = i := by rw [List.length_take]; omega
  rw [List.take_append_of_le_length (l₁ := l.take i) (by omega), List.take_of_length_le (l := l.take i) (by omega), List.drop_append_of_le_length (l₁ := l.take i) (by omega), show (l.take i).drop i = [] from List.drop_eq_nil_of_le (by omega), List.nil_append, List.drop_drop, ← hy, ← List.drop_eq_getElem_cons hi, List.take_append_drop]

theorem getv (K : Nat → Prop) (p : Option Addr) (xs : List Int) (i x : Int) (w : World) (h : Tree K w p xs) (h0 : 0 ≤ i) (hx : xs[i.toNat]? = some x) (hl : xs.length ≤ 1000000) :
    Calls Try.prog 18 #[rope p, .int .i64 i] w (Ret (fun v _ => v = .tuple #[.int .i64 x, .bool true]) w) := by
  have := get_in K p xs i.toNat x w h hx hl
  rwa [show ((i.toNat : Nat) : Int) = i by omega] at this

set_option maxHeartbeats 4000000 in
theorem back_out (v : Value) (i x : Int) (W : World)
    (hf : ∀ V, Below W.heap.size W V → Calls Try.prog 14 #[v] V (Ret (fun u _ => u = .bool false) V)) :
    Calls Try.prog 7 #[v, .int .i64 i, .int .i64 x] W (Tru W) := by
  have HF := Lib.hid hf; clear hf
  go_enter Try.func7, Try.ntmps7
  go_wp2_with (first
    | (go_at_call 14; ((with_reducible refine (HF.out _ (by go_grown)).mono ?_); rintro e w1 ⟨v, rfl, rfl, hb1⟩; have hB1 : Below W.heap.size W w1 := below_trans (by go_grown) hb1; clear hb1))
    | (go_at_call 8; ((with_reducible refine (live_c _).mono ?_); rintro e w2 ⟨v, rfl, rfl, hb2⟩; have hB2 : Below W.heap.size W w2 := below_trans (by go_grown) hb2; clear hb2)))
  go_returns
  exact ⟨rfl, by go_grown⟩

set_option maxRecDepth 100000 in
set_option maxHeartbeats 8000000 in
theorem back_in (v : Value) (i x : Int) (os : List S59) (W : World) (hO : OpsV W v os) (hl : os.length ≤ 40) (hN : ∀ (q : Nat) (o : S59), os[q]? = some o → o.f5 ≤ 1000)
    (hf : ∀ V, Below W.heap.size W V → Calls Try.prog 14 #[v] V (Ret (fun u _ => u = .bool true) V)) :
    Calls Try.prog 7 #[v, .int .i64 i, .int .i64 x] W (Tru W) := by
  have HF := Lib.hid hf; clear hf
  have HAL := Lib.hid (fun V (hw : Below W.heap.size W V) => all_c v os V (hO.below hw) hl hN)
  clear hO hN
  go_enter Try.func7, Try.ntmps7
  go_wp2_with (first
    | (go_at_call 8; ((with_reducible refine (live_c _).mono ?_); rintro e w1 ⟨v, rfl, rfl, hb1⟩; have hB1 : Below W.heap.size W w1 := below_trans (by go_grown) hb1; clear hb1))
    | (go_at_call 14; ((with_reducible refine (HF.out _ (by go_grown)).mono ?_); rintro e w2 ⟨v, rfl, rfl, hb2⟩; have hB2 : Below W.heap.size W w2 := below_trans hB1 hb2; clear hb2))
    | (go_at_call 15; ((with_reducible refine (HAL.out _ hB2).mono ?_); rintro e wo ⟨v, rfl, ⟨vs, ls, hist, rfl, hh1, hh41, hH⟩, hb3⟩; have hB : Below W.heap.size W wo := below_trans hB2 hb3; obtain ⟨gv, cv, rfl, hgv, hcv⟩ := row_form hH.1 (by omega); obtain ⟨gl, cl, rfl, hgl, hcl⟩ := row_form hH.2.1 (by omega); have HCV := Lib.hid hcv; have HCL := Lib.hid hcl; have HH := Lib.hid hH; clear hcv hcl hH hb3; obtain ⟨n, hn⟩ : ∃ n, hist.length = n + 1 := ⟨hist.length - 1, by omega⟩; rw [hn]; obtain ⟨⟨pr, sr, l⟩, hx⟩ : ∃ x, hist[n]? = some x := ⟨_, List.getElem?_eq_getElem (by omega)⟩; obtain ⟨ht, -, hl2⟩ := HH.out.2.2.1 _ (List.mem_of_getElem? hx); have cvn : wo.cell? ⟨gv, n, none⟩ = some (.pointer pr) := HCV.out n (.pointer pr) (by rw [List.getElem?_map, hx]; rfl); have HTR := Lib.hid (show Tree (KD w2 (.slice (some ⟨gv, 0, none⟩) hist.length cv) (.slice (some ⟨gl, 0, none⟩) hist.length cl)) wo pr l from ht); have HL := Lib.hid (show l.length ≤ 4000 from hl2); have hnI : (n : Int) ≤ 41 := (by omega); clear ht hl2 hx HCV HCL HH)))
  have HLr := Lib.hid (fun V (hw : Below wo.heap.size wo V) => len_c _ pr l V (HTR.out.below hw))
  have hlI : (l.length : Int) ≤ 4000 := by have := HL.out; omega
  by_cases hin : 0 ≤ i ∧ i ≤ l.length
  · have hi0 := hin.1
    have hil := hin.2
    have hm : i.toNat ≤ l.length := by omega
    obtain ⟨L1, hL1⟩ : ∃ L1, L1 = l.take i.toNat ++ x :: l.drop i.toNat := ⟨_, rfl⟩
    obtain ⟨hb1, hb2⟩ := back_ins l i.toNat x hm
    rw [← hL1] at hb1 hb2
    have hl1 : L1.length = l.length + 1 := by rw [hL1, List.length_append, List.length_cons, List.length_take, List.length_drop]; omega
    have HI := Lib.hid (fun V (hw : Below wo.heap.size wo V) => (show Calls Try.prog 24 #[rope pr, .int .i64 i, .int .i64 x] V (Ret (fun v w' => ∃ u, v = .tuple #[u, .int .i64 0] ∧ RopeV (New _ V) w' u L1) V) from by rw [hL1]; exact insert_in _ pr l i x V (HTR.out.below hw) hi0 hil (by have := HL.out; omega)))
    have HG2 := Lib.hid hb2
    have HG1 := Lib.hid hb1
    have HL1 := Lib.hid hl1
    have HIL := Lib.hid (And.intro hi0 (show i < (L1.length : Int) by omega))
    clear hb1 hb2 hl1 hL1 hin
    have HLL := Lib.hid (show L1.length ≤ 1000000 by rw [HL1.out]; have := HL.out; omega)
    go_wp2_with (first
      | (go_at_call 24; ((with_reducible refine (HI.out _ (by go_grown)).mono ?_); rintro e w5 ⟨v, rfl, ⟨u, rfl, hu⟩, hb5⟩; obtain ⟨p5, rfl, hT5⟩ := hu; have HTs := Lib.hid hT5; have HBr := Lib.hid (blk_below (blk_new wo _) hb5); have kr := (box1 HBr.out).1; have h05 : Below wo.heap.size wo w5 := below_trans ((Below.refl _ _).alloc (Nat.le_refl _) _) hb5; have HTr := Lib.hid (HTR.out.below h05); clear hT5 hb5 HI))
      | (go_at_call 18; ((with_reducible refine (getv _ p5 L1 i x _ (HTs.out.below ((Below.refl _ _).alloc (Nat.le_refl _) _)) HIL.out.1 HG2.out HLL.out).mono ?_); rintro e w6 ⟨v, rfl, rfl, hb6⟩; have h56 : Below w5.heap.size w5 w6 := below_trans ((Below.refl _ _).alloc (Nat.le_refl _) _) hb6; have HBs := Lib.hid (blk_below (blk_new w5 _) hb6); have ks := (box1 HBs.out).1; replace HBr := Lib.hid (blk_below HBr.out h56); (try clear kr); have kr := (box1 HBr.out).1; replace HTs := Lib.hid (HTs.out.below h56); replace HTr := Lib.hid (HTr.out.below h56); have h06 := below_trans h05 h56; clear hb6 h56 h05 HG2))
      | (go_at_call 25; ((with_reducible refine (remove_in _ p5 L1 i _ HTs.out HIL.out.1 HIL.out.2 HLL.out).mono ?_); rintro e w7 ⟨v, rfl, ⟨u, rfl, hu⟩, hb7⟩; obtain ⟨p7, rfl, hT7⟩ := hu; rw [HG1.out] at hT7; have HTt := Lib.hid hT7; replace HBr := Lib.hid (blk_below HBr.out hb7); (try clear kr); have kr := (box1 HBr.out).1; replace HBs := Lib.hid (blk_below HBs.out hb7); (try clear ks); have ks := (box1 HBs.out).1; replace HTs := Lib.hid (HTs.out.below hb7); replace HTr := Lib.hid (HTr.out.below hb7); have h07 := below_trans h06 hb7; clear hT7 hb7 h06 HG1)))
    have HX8 := Lib.hid ((Below.refl w7.heap.size w7).alloc (Nat.le_refl _) (.cells #[.pointer p7] RT))
    have HBt := Lib.hid (blk_new w7 (.cells #[.pointer p7] RT))
    generalize w7.alloc (.cells #[.pointer p7] RT) = w8 at HX8 HBt ⊢
    have kt := (box1 HBt.out).1
    have hb8 := HX8.out
    replace HBr := Lib.hid (blk_below HBr.out hb8)
    replace HBs := Lib.hid (blk_below HBs.out hb8)
    clear kr ks
    have kr := (box1 HBr.out).1
    have ks := (box1 HBs.out).1
    replace HTs := Lib.hid (HTs.out.below hb8)
    replace HTr := Lib.hid (HTr.out.below hb8)
    replace HTt := Lib.hid (HTt.out.below hb8)
    have h08 := below_trans h07 hb8
    clear hb8 HX8 h07
    obtain ⟨N1, hN1⟩ : ∃ N1 : Int, N1 = (l.length : Int) + 1 := ⟨_, rfl⟩
    have hw1 : IntKind.i64.wrap ((l.length : Int) + 1) = N1 := by rw [IntKind.wrap_i64, hN1]; omega
    have HCls := Lib.hid (fun V (hw : Below w8.heap.size w8 V) => (show Calls Try.prog 21 #[rope p5] V (Ret (fun v _ => v = .int .i64 N1) V) from by have := len_c _ p5 L1 V (HTs.out.below hw); rw [HL1.out] at this; push_cast at this; rw [hN1]; exact this))
    clear hN1 hlI
    have HClr := Lib.hid (fun V (hw : Below w8.heap.size w8 V) => len_c _ pr l V (HTr.out.below hw))
    have HCtt := Lib.hid (fun V (hw : Below w8.heap.size w8 V) => list_o _ p7 l V (HTt.out.below hw) (by have := HL.out; omega))
    have HCtr := Lib.hid (fun V (hw : Below w8.heap.size w8 V) => list_o _ pr l V (HTr.out.below hw) (by have := HL.out; omega))
    have HNL := Lib.hid (show l.length ≤ 1000000 by have := HL.out; omega)
    go_region_held3 (fun w' => w'.cell? ⟨wo.heap.size, 0, none⟩ = some (.pointer pr) ∧ w'.cell? ⟨w5.heap.size, 0, none⟩ = some (.pointer p5) ∧ w'.cell? ⟨w7.heap.size, 0, none⟩ = some (.pointer p7))
      ((refine ⟨?_, ?_, ?_⟩ <;> first | (with_reducible exact cell_below kr (by assumption)) | (with_reducible exact cell_below ks (by assumption)) | (with_reducible exact cell_below kt (by assumption)) | (go_keep; done)))
      (first
        | (go_at_call 21; (with_reducible refine (HCls.out _ ?_).mono ?_); (first | (with_reducible assumption) | exact (Below.refl _ _).drew); rintro e wa ⟨v, rfl, rfl, hba⟩; have hBa : Below w8.heap.size w8 wa := below_trans (by first | (with_reducible assumption) | exact (Below.refl _ _).drew) hba)
        | (go_at_call 21; (with_reducible refine (HClr.out _ ?_).mono ?_); (first | (with_reducible assumption) | exact (Below.refl _ _).drew); rintro e wb ⟨v, rfl, rfl, hbb⟩; have hBb : Below w8.heap.size w8 wb := below_trans (by first | (with_reducible assumption) | exact (Below.refl _ _).drew) hbb)
        | (go_at_call 12; (with_reducible refine (HCtt.out _ ?_).mono ?_); (first | (with_reducible assumption) | exact (Below.refl _ _).drew); rintro e wc ⟨v, rfl, hOc, hbc⟩; obtain ⟨Ac, nc, cc, rfl⟩ := hOc.slv.form; have hSc := hOc.slv; clear hOc; have hBc : Below w8.heap.size w8 wc := below_trans (by first | (with_reducible assumption) | exact (Below.refl _ _).drew) hbc)
        | (go_at_call 12; (with_reducible refine (HCtr.out _ ?_).mono ?_); (first | (with_reducible assumption) | exact (Below.refl _ _).drew); rintro e wd ⟨v, rfl, hOd, hbd⟩; obtain ⟨Ad, nd, cd, rfl⟩ := hOd.slv.form; have hSd := hOd.slv; clear hOd; have hBd : Below w8.heap.size w8 wd := below_trans (by first | (with_reducible assumption) | exact (Below.refl _ _).drew) hbd)
        | (go_at_call 13; (first | (with_reducible refine (rsame_c _ _ _ _ _ HNL.out _ (hSc.below hbd) hSd).mono ?_) | (with_reducible refine (rsame_c _ _ _ _ _ HNL.out _ hSc (hSd.below hbc)).mono ?_)); rintro e we ⟨v, rfl, rfl, hbe⟩; have hBe : Below w8.heap.size w8 we := below_trans (by first | (with_reducible assumption) | exact (Below.refl _ _).drew) hbe)
        | fail)
    replace HBr := Lib.hid (blk_below HBr.out hBe)
    replace HTr := Lib.hid (HTr.out.below hBe)
    have h0e := below_trans h08 hBe
    clear kr ks kt HBs HBt HTs HTt hba hbb hbc hbd hbe hBa hBb hBc hBd hBe hSc hSd HCls HClr HCtt HCtr hw1
    have kr := (box1 HBr.out).1
    have HWE := Lib.hid (below_trans hB h0e)
    have hlI : (l.length : Int) ≤ 4000 := by have := HL.out; omega
    by_cases hlt : i < l.length
    · obtain ⟨y, hy⟩ : ∃ y, l[i.toNat]? = some y := ⟨_, List.getElem?_eq_getElem (by omega)⟩
      have hrem := back_rem l i.toNat y hy
      obtain ⟨L2, hL2⟩ : ∃ L2, L2 = l.take i.toNat ++ (l.drop i.toNat).drop 1 := ⟨_, rfl⟩
      rw [← hL2] at hrem
      have hl2 : L2.length + 1 = l.length := by rw [hL2, List.length_append, List.length_take, List.length_drop, List.length_drop]; omega
      have HRM := Lib.hid (fun V (hw : Below we.heap.size we V) => (show Calls Try.prog 25 #[rope pr, .int .i64 i] V (Ret (fun v w' => ∃ u, v = .tuple #[u, .int .i64 0] ∧ RopeV (New _ V) w' u L2) V) from by rw [hL2]; exact remove_in _ pr l i V (HTr.out.below hw) hi0 hlt (by omega)))
      have HGT := Lib.hid (fun V (hw : Below we.heap.size we V) => getv _ pr l i y V (HTr.out.below hw) hi0 hy (by omega))
      have HHR := Lib.hid hrem
      have HIL2 := Lib.hid (And.intro hi0 (And.intro (show i ≤ (L2.length : Int) by omega) (show L2.length + 1 ≤ 1000000 by omega)))
      have HL2 := Lib.hid hl2
      clear hrem hL2 hy hl2
      go_wp2_with (first
        | (go_at_call 18; ((with_reducible refine (HGT.out _ (Below.refl _ _)).mono ?_); rintro e w9 ⟨v, rfl, rfl, hb9⟩; replace HBr := Lib.hid (blk_below HBr.out hb9); (try clear kr); have kr := (box1 HBr.out).1; replace HTr := Lib.hid (HTr.out.below hb9); have he9 := hb9; clear HGT hb9))
        | (go_at_call 25; ((with_reducible refine (HRM.out _ he9).mono ?_); rintro e w10 ⟨v, rfl, ⟨u, rfl, hu⟩, hb10⟩; obtain ⟨p10, rfl, hT10⟩ := hu; have HTu := Lib.hid hT10; replace HBr := Lib.hid (blk_below HBr.out hb10); (try clear kr); have kr := (box1 HBr.out).1; replace HTr := Lib.hid (HTr.out.below hb10); have he10 := below_trans he9 hb10; clear HRM hb10 hT10 he9))
        | (go_at_call 24; ((with_reducible refine (insert_in _ p10 L2 i y _ (HTu.out.below ((Below.refl _ _).alloc (Nat.le_refl _) _)) HIL2.out.1 HIL2.out.2.1 HIL2.out.2.2).mono ?_); rintro e w11 ⟨v, rfl, ⟨u, rfl, hu⟩, hb11⟩; obtain ⟨p11, rfl, hT11⟩ := hu; rw [HHR.out] at hT11; have HTv := Lib.hid hT11; have HBu := Lib.hid (blk_below (blk_new w10 _) hb11); have ku := (box1 HBu.out).1; have h1011 : Below w10.heap.size w10 w11 := below_trans ((Below.refl _ _).alloc (Nat.le_refl _) _) hb11; replace HBr := Lib.hid (blk_below HBr.out h1011); (try clear kr); have kr := (box1 HBr.out).1; replace HTr := Lib.hid (HTr.out.below h1011); replace HTu := Lib.hid (HTu.out.below h1011); have he11 := below_trans he10 h1011; clear hb11 h1011 hT11 he10)))
      have HX8 := Lib.hid ((Below.refl w11.heap.size w11).alloc (Nat.le_refl _) (.cells #[.pointer p11] RT))
      have HBv := Lib.hid (blk_new w11 (.cells #[.pointer p11] RT))
      generalize w11.alloc (.cells #[.pointer p11] RT) = w12 at HX8 HBv ⊢
      have kv := (box1 HBv.out).1
      have hb8 := HX8.out
      replace HBr := Lib.hid (blk_below HBr.out hb8)
      replace HBu := Lib.hid (blk_below HBu.out hb8)
      clear kr ku
      have kr := (box1 HBr.out).1
      have ku := (box1 HBu.out).1
      replace HTu := Lib.hid (HTu.out.below hb8)
      replace HTr := Lib.hid (HTr.out.below hb8)
      replace HTv := Lib.hid (HTv.out.below hb8)
      have he12 := below_trans he11 hb8
      clear hb8 HX8 he11
      obtain ⟨N2, hN2⟩ : ∃ N2 : Int, N2 = (L2.length : Int) := ⟨_, rfl⟩
      have hw2 : IntKind.i64.wrap ((l.length : Int) - 1) = N2 := by rw [IntKind.wrap_i64, hN2]; have := HL2.out; omega
      have HCls := Lib.hid (fun V (hw : Below w12.heap.size w12 V) => (show Calls Try.prog 21 #[rope p10] V (Ret (fun v _ => v = .int .i64 N2) V) from by have := len_c _ p10 L2 V (HTu.out.below hw); rw [hN2]; exact this))
      have HClr := Lib.hid (fun V (hw : Below w12.heap.size w12 V) => len_c _ pr l V (HTr.out.below hw))
      have HCtt := Lib.hid (fun V (hw : Below w12.heap.size w12 V) => list_o _ p11 l V (HTv.out.below hw) (by have := HL.out; omega))
      have HCtr := Lib.hid (fun V (hw : Below w12.heap.size w12 V) => list_o _ pr l V (HTr.out.below hw) (by have := HL.out; omega))
      clear hN2 hlI hlt
      go_region_held3 (fun w' => w'.cell? ⟨wo.heap.size, 0, none⟩ = some (.pointer pr) ∧ w'.cell? ⟨w10.heap.size, 0, none⟩ = some (.pointer p10) ∧ w'.cell? ⟨w11.heap.size, 0, none⟩ = some (.pointer p11))
        ((refine ⟨?_, ?_, ?_⟩ <;> first | (with_reducible exact cell_below kr (by assumption)) | (with_reducible exact cell_below ku (by assumption)) | (with_reducible exact cell_below kv (by assumption)) | (go_keep; done)))
        (first
          | (go_at_call 21; (with_reducible refine (HCls.out _ ?_).mono ?_); (first | (with_reducible assumption) | exact (Below.refl _ _).drew); rintro e wa ⟨v, rfl, rfl, hba⟩; have hBa : Below w12.heap.size w12 wa := below_trans (by first | (with_reducible assumption) | exact (Below.refl _ _).drew) hba)
          | (go_at_call 21; (with_reducible refine (HClr.out _ ?_).mono ?_); (first | (with_reducible assumption) | exact (Below.refl _ _).drew); rintro e wb ⟨v, rfl, rfl, hbb⟩; have hBb : Below w12.heap.size w12 wb := below_trans (by first | (with_reducible assumption) | exact (Below.refl _ _).drew) hbb)
          | (go_at_call 12; (with_reducible refine (HCtt.out _ ?_).mono ?_); (first | (with_reducible assumption) | exact (Below.refl _ _).drew); rintro e wc ⟨v, rfl, hOc, hbc⟩; obtain ⟨Ac, nc, cc, rfl⟩ := hOc.slv.form; have hSc := hOc.slv; clear hOc; have hBc : Below w12.heap.size w12 wc := below_trans (by first | (with_reducible assumption) | exact (Below.refl _ _).drew) hbc)
          | (go_at_call 12; (with_reducible refine (HCtr.out _ ?_).mono ?_); (first | (with_reducible assumption) | exact (Below.refl _ _).drew); rintro e wd ⟨v, rfl, hOd, hbd⟩; obtain ⟨Ad, nd, cd, rfl⟩ := hOd.slv.form; have hSd := hOd.slv; clear hOd; have hBd : Below w12.heap.size w12 wd := below_trans (by first | (with_reducible assumption) | exact (Below.refl _ _).drew) hbd)
          | (go_at_call 13; (first | (with_reducible refine (rsame_c _ _ _ _ _ HNL.out _ (hSc.below hbd) hSd).mono ?_) | (with_reducible refine (rsame_c _ _ _ _ _ HNL.out _ hSc (hSd.below hbc)).mono ?_)); rintro e wf ⟨v, rfl, rfl, hbf⟩; have hBf : Below w12.heap.size w12 wf := below_trans (by first | (with_reducible assumption) | exact (Below.refl _ _).drew) hbf)
          | fail)
      go_wp2_with fail
      go_returns
      exact ⟨rfl, below_trans (below_trans HWE.out he12) hBf⟩
    · have hie : i = (l.length : Int) := by omega
      subst hie
      have HGT := Lib.hid (fun V (hw : Below we.heap.size we V) => get_out _ pr l (l.length : Int) V (HTr.out.below hw) (by omega))
      have HRM := Lib.hid (fun V (hw : Below we.heap.size we V) => remove_out _ pr l (l.length : Int) V (HTr.out.below hw) (by omega))
      have HCL := Lib.hid (fun V (hw : Below we.heap.size we V) => len_c _ pr l V (HTr.out.below hw))
      go_wp2_with (first
        | (go_at_call 18; ((with_reducible refine (HGT.out _ (Below.refl _ _)).mono ?_); rintro e w9 ⟨v, rfl, rfl, hb9⟩; replace HBr := Lib.hid (blk_below HBr.out hb9); (try clear kr); have kr := (box1 HBr.out).1; have he9 := hb9; clear HGT hb9))
        | (go_at_call 25; ((with_reducible refine (HRM.out _ he9).mono ?_); rintro e w10 ⟨v, rfl, rfl, hb10⟩; replace HBr := Lib.hid (blk_below HBr.out hb10); (try clear kr); have kr := (box1 HBr.out).1; have gr := fun o : Obj => cell_below kr ((Below.refl w10.heap.size w10).alloc (Nat.le_refl _) o); have he10 := below_trans he9 hb10; clear HRM hb10 he9))
        | (go_at_call 21; ((with_reducible refine (HCL.out _ (below_trans he10 ((Below.refl _ _).alloc (Nat.le_refl _) _))).mono ?_); rintro e w11 ⟨v, rfl, rfl, hb11⟩; have he11 := below_trans he10 (below_trans ((Below.refl w10.heap.size w10).alloc (Nat.le_refl _) (.cells #[.pointer none] RT)) hb11))))
      go_returns
      exact ⟨rfl, below_trans HWE.out he11⟩
  · have HI := Lib.hid (fun V (hw : Below wo.heap.size wo V) => insert_out _ pr l i x V (HTR.out.below hw) (by omega))
    have HL0 := Lib.hid (fun V => len_c (fun _ => False) none [] V (Or.inl ⟨rfl, rfl⟩))
    by_cases hneg : i < 0
    · clear hin
      go_wp2_with (first
        | (go_at_call 24; ((with_reducible refine (HI.out _ (by go_grown)).mono ?_); rintro e w5 ⟨v, rfl, rfl, hb5⟩; have h05 : Below wo.heap.size wo w5 := below_trans ((Below.refl _ _).alloc (Nat.le_refl _) _) hb5; have hB5 := below_trans hB (below_trans ((Below.refl wo.heap.size wo).alloc (Nat.le_refl _) (.cells #[.pointer pr] RT)) hb5)))
        | (go_at_call 21; ((with_reducible refine (HL0.out _).mono ?_); rintro e w6 ⟨v, rfl, rfl, hb6⟩; have hB6 := below_trans (hB5.alloc hB5.size _) hb6)))
      go_returns
      exact ⟨rfl, hB6⟩
    · have hgt : (l.length : Int) < i := by omega
      clear hin
      go_wp2_with (first
        | (go_at_call 24; ((with_reducible refine (HI.out _ (by go_grown)).mono ?_); rintro e w5 ⟨v, rfl, rfl, hb5⟩; have h05 : Below wo.heap.size wo w5 := below_trans ((Below.refl _ _).alloc (Nat.le_refl _) _) hb5; have hB5 := below_trans hB h05; have HBr := Lib.hid (blk_below (blk_new wo _) hb5); have gr := fun o : Obj => cell_below (box1 HBr.out).1 ((Below.refl w5.heap.size w5).alloc (Nat.le_refl _) o)))
        | (go_at_call 21; ((with_reducible refine (HLr.out _ (below_trans h05 ((Below.refl _ _).alloc (Nat.le_refl _) _))).mono ?_); rintro e w6 ⟨v, rfl, rfl, hb6⟩; have hB6 := below_trans (hB5.alloc hB5.size _) hb6; have ks := (box1 (blk_below (blk_new w5 _) hb6)).1))
        | (go_at_call 21; ((with_reducible refine (HL0.out _).mono ?_); rintro e w7 ⟨v, rfl, rfl, hb7⟩; have hB7 := below_trans hB6 hb7)))
      go_returns
      exact ⟨rfl, hB7⟩

theorem back_walk (v : Value) (os : List S59) (i x : Int) (W : World) (hO : OpsV W v os) (_ : (Lit.int .i64 i).wf = true) (_ : (Lit.int .i64 x).wf = true) :
    Calls Try.prog 7 #[v, .int .i64 i, .int .i64 x] W fun e W' => e = .returned (.bool true) ∧ Below W.heap.size W W' := by
  obtain ⟨r, h1, h2⟩ := few_c W v os hO
  cases r with
  | false => exact back_out v i x W h2
  | true => exact back_in v i x os W hO (h1 rfl).1 (h1 rfl).2 h2
end Go.Proofs.Ytcjpdjecgeenfaa.Ro
