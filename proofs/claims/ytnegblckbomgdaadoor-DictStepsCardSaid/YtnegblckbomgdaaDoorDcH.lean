/- The next key of each goes through all keys; ranks and places turn each other: the walk. -/
import Derived.Test.YtnegblckbomgdaaDoorDcG
import Derived.Deep.DeepCutAuto
set_option linter.unusedVariables false
set_option linter.unusedSimpArgs false
namespace Go.Proofs.YtnegblckbomgdaaDoor.Ht
open Go Go.RowKit Go.Shelf Go.Proofs.YtnegblckbomgdaaDoor.Mem Go.Proofs.YtnegblckbomgdaaDoor.PA Go.Proofs.YtnegblckbomgdaaDoorW.PrintWords Go.Proofs.YtnegblckbomgdaaDoor.U64 Go.Proofs.YtnegblckbomgdaaDoor.Bs Go.Proofs.YtnegblckbomgdaaDoor

theorem srt_get' {L : List Pr} (h : Srt L) {i j : Nat} {e f : Pr} (he : L[i]? = some e) (hf : L[j]? = some f) (hij : i < j) : klt e.1 f.1 = true := by
  obtain ⟨hi, rfl⟩ := List.getElem?_eq_some_iff.1 he
  obtain ⟨hj, rfl⟩ := List.getElem?_eq_some_iff.1 hf
  exact List.pairwise_iff_getElem.1 h i j hi hj hij
theorem rnk_at {L : List Pr} (hS : Srt L) {i : Nat} {e : Pr} (he : L[i]? = some e) : rnk L e.1 = i := by
  have h1 : ¬ i < rnk L e.1 := fun h => by
    have := (rnk_lt hS he (k := e.1)).2 h
    rw [klt_self] at this; cases this
  cases i with
  | zero => omega
  | succ j =>
    have hjl : j < L.length := by have := (List.getElem?_eq_some_iff.1 he).1; omega
    have hj : L[j]? = some L[j] := List.getElem?_eq_getElem hjl
    have h2 := (rnk_lt hS hj (k := e.1)).1 (srt_get' hS hj he (Nat.lt_succ_self j))
    omega
theorem nxt_at {L : List Pr} (hS : Srt L) {i : Nat} {e : Pr} (he : L[i]? = some e) : nxt L e.1 = (i : Int) + 1 := by
  unfold nxt
  rw [(lkp_some hS).2 (List.mem_of_getElem? he), rnk_at hS he]
  rfl
def StI (L : List Pr) (w6 : World) (N k : Nat) (v8 v10 v43 : Value) (wr : World) (_u : Unit) : Prop :=
  ∃ i : Nat, v43 = .int .i64 (i : Int) ∧ i + k = N ∧ v8 = .string (plc L (i : Int)).1 ∧ v10 = .bool (plc L (i : Int)).2.2 ∧ Below w6.heap.size w6 wr

set_option maxRecDepth 100000 in
set_option maxHeartbeats 8000000 in
theorem steps_in (c : Cf) (v : Value) (os : List S2) (W : World) (hT : Tab W) (hO : PairsV W v os) (hl : os.length ≤ 80) (hk : ∀ o ∈ os, o.f0.size ≤ 200)
    (hf : ∀ V, Below W.heap.size W V → Calls Tryd.prog 37 #[v] V (Ret (fun u _ => u = .bool true) V)) :
    Calls Tryd.prog 11 #[confV c, v] W (Tru W) := by
  obtain ⟨As, cs, rfl, -⟩ := id hO
  obtain ⟨y, hy⟩ : ∃ y, U c.1 = y := ⟨_, rfl⟩
  obtain ⟨b, hb⟩ : ∃ b, c.2 = b := ⟨_, rfl⟩
  have HT := Lib.hid hT; have HF := Lib.hid hf
  have HLV := Lib.hid (fun V hT => livep_c V hT)
  have HMD := Lib.hid (fun V (hV : Below W.heap.size W V) => (show Calls Tryd.prog 38 #[.agg #[.int .u64 y, .int .i64 b], .slice As os.length cs] V (Ret (fun u w' => Made c y b 80 u w') V) from made_w c _ os y b hy hb V (hO.below hV) hl hk))
  show Calls Tryd.prog 11 #[.agg #[.int .u64 (U c.1), .int .i64 c.2], .slice As os.length cs] W _
  rw [hy, hb]
  clear hy hb hO hl hk hT hf
  generalize os.length = T at HF HMD ⊢
  have BC0 := blk_new W (.cells #[.int .u64 y, .int .i64 b] CT)
  have hB0 := (Below.refl W.heap.size W).alloc (Nat.le_refl _) (.cells #[.int .u64 y, .int .i64 b] CT)
  have HB0 := Lib.hid hB0; have HC0 := Lib.hid BC0
  clear hB0 BC0
  go_enter Tryd.func11, Tryd.ntmps11
  go_upto_region 4 with (first
    | (go_at_call 36; ((with_reducible refine (HLV.out _ (HT.out.below HB0.out)).mono ?_); rintro e w1 ⟨v, rfl, rfl, hb1⟩; have HB1 := Lib.hid (below_trans HB0.out hb1); have HC1 := Lib.hid (blk_below HC0.out hb1); clear hb1))
    | (go_at_call 37; ((with_reducible refine (HF.out _ HB1.out).mono ?_); rintro e w2 ⟨v, rfl, rfl, hb2⟩; have HB2 := Lib.hid (below_trans HB1.out hb2); obtain ⟨⟨a0, a1⟩, -⟩ := box2 (blk_below HC1.out hb2); clear hb2))
    | (go_at_call 38; ((with_reducible refine (HMD.out _ HB2.out).mono ?_); rintro e w3 ⟨v, rfl, ⟨L, n, p, A1, n1, c1, A2, n2, c2, rfl, hL, hm, hr⟩, hb3⟩; have HB3 := Lib.hid (below_trans HB2.out hb3); have HM3 := Lib.hid hm; have HR3 := Lib.hid hr; clear hb3 hm hr))
    | fail)
  have HBM := Lib.hid (blk_alloc (blk_new w3 (.cells #[.int .u64 y, .int .i64 b, .int .i64 n, .pointer p] MT)) (.cells #[.slice A1 n1 c1, .slice A2 n2 c2] RT)); have HBR := Lib.hid (heap_k1 w3 (.cells #[.int .u64 y, .int .i64 b, .int .i64 n, .pointer p] MT) (.cells #[.slice A1 n1 c1, .slice A2 n2 c2] RT))
  have hal := ((Below.refl w3.heap.size w3).alloc (Nat.le_refl _) (.cells #[.int .u64 y, .int .i64 b, .int .i64 n, .pointer p] MT)).alloc (by simp) (.cells #[.slice A1 n1 c1, .slice A2 n2 c2] RT)
  have HM := Lib.hid (HM3.out.below hal); have HR := Lib.hid (HR3.out.below hal); have HW := Lib.hid (below_trans HB3.out hal)
  clear HM3 HR3 HB3 HB2 HB1 HC1 HC0 HB0 hal a0 a1 HMD HF HLV
  generalize (w3.alloc (.cells #[.int .u64 y, .int .i64 b, .int .i64 n, .pointer p] MT)).alloc (.cells #[.slice A1 n1 c1, .slice A2 n2 c2] RT) = V at *
  generalize w3.heap.size = g at *
  have HV := Lib.hid (Below.refl V.heap.size V)
  have hL2 : L.length ≤ 1000 := by omega
  have hL3 : L.length ≤ 1000000 := by omega
  have hT1 := HT.out.below HW.out
  obtain ⟨-, -, -, -, -, -, hS, hSm⟩ := mform HM.out
  obtain rfl : n1 = L.length := ref_len HR.out
  obtain ⟨⟨a0, a1, a2, a3⟩, -⟩ := box4 HBM.out
  have HKY := Lib.hid (fun V' (hV : Below V.heap.size V V') => keys_c c _ _ L V' (HM.out.below hV) hL2 (hT1.below hV))
  have HFI := Lib.hid (fun V' (hV : Below V.heap.size V V') => (show Calls Tryd.prog 39 #[.agg #[.int .u64 y, .int .i64 b, .int .i64 n, .pointer p]] V' (Ret (fun u _ => u = plcV L 0) V') from first_q c _ _ L V' (HM.out.below hV) hL2 (hT1.below hV)))
  have HAT := Lib.hid (fun (i : Nat) (k : ByteArray) (x : Int) (he : L[i]? = some (k, x)) V' (hV : Below V.heap.size V V') => (show Calls Tryd.prog 46 #[.agg #[.int .u64 y, .int .i64 b, .int .i64 n, .pointer p], .int .i64 (i : Int)] V' (Ret (fun u _ => u = .tuple #[.string k, .int .i64 x, .bool true]) V') from by have h := at_c c _ _ L (i : Int) V' (HM.out.below hV) hL2 (hT1.below hV); unfold plcV at h; rw [plc_in he] at h; exact h))
  have HRK := Lib.hid (fun (i : Nat) (k : ByteArray) (x : Int) (he : L[i]? = some (k, x)) V' (hV : Below V.heap.size V V') => (show Calls Tryd.prog 47 #[.agg #[.int .u64 y, .int .i64 b, .int .i64 n, .pointer p], .string k] V' (Ret (fun u _ => u = .int .i64 (i : Int)) V') from by have h := rank_q c _ _ L k V' (HM.out.below hV) hL2 (hT1.below hV); rw [show rnk L k = i from rnk_at hS he] at h; exact h))
  have HNX := Lib.hid (fun (i : Nat) (k : ByteArray) (x : Int) (he : L[i]? = some (k, x)) V' (hV : Below V.heap.size V V') => (show Calls Tryd.prog 42 #[.agg #[.int .u64 y, .int .i64 b, .int .i64 n, .pointer p], .string k] V' (Ret (fun u _ => u = .tuple #[.string (plc L ((i + 1 : Nat) : Int)).1, .int .i64 (plc L ((i + 1 : Nat) : Int)).2.1, .bool (plc L ((i + 1 : Nat) : Int)).2.2]) V') from by have h := next_c c _ _ L k V' (HM.out.below hV) hL2 (hT1.below hV); unfold plcV at h; rw [show nxt L k = (i : Int) + 1 from nxt_at hS he] at h; exact h))
  have HPZ := Lib.hid (fun (k : ByteArray) (x : Int) (he : L[0]? = some (k, x)) V' (hV : Below V.heap.size V V') => (show Calls Tryd.prog 44 #[.agg #[.int .u64 y, .int .i64 b, .int .i64 n, .pointer p], .string k] V' (Ret (fun u _ => u = .tuple #[.string ⟨#[]⟩, .int .i64 0, .bool false]) V') from by have h := prev_c c _ _ L k V' (HM.out.below hV) hL2 (hT1.below hV); unfold plcV at h; rw [show rnk L k = 0 from rnk_at hS he, plc_neg (by decide)] at h; exact h))
  have HPS := Lib.hid (fun (i : Nat) (k : ByteArray) (x : Int) (k' : ByteArray) (x' : Int) (he : L[i + 1]? = some (k, x)) (he' : L[i]? = some (k', x')) V' (hV : Below V.heap.size V V') => (show Calls Tryd.prog 44 #[.agg #[.int .u64 y, .int .i64 b, .int .i64 n, .pointer p], .string k] V' (Ret (fun u _ => u = .tuple #[.string k', .int .i64 x', .bool true]) V') from by have h := prev_c c _ _ L k V' (HM.out.below hV) hL2 (hT1.below hV); unfold plcV at h; rw [show rnk L k = i + 1 from rnk_at hS he, show ((i + 1 : Nat) : Int) - 1 = (i : Int) from by omega, plc_in he'] at h; exact h))
  have HLN := Lib.hid (fun V' (hV : Below V.heap.size V V') => (show Calls Tryd.prog 29 #[.agg #[.int .u64 y, .int .i64 b, .int .i64 n, .pointer p]] V' (Ret (fun u _ => u = .int .i64 (L.length : Int)) V') from mlen_c c _ _ L V' (HM.out.below hV)))
  obtain ⟨N, hN⟩ : ∃ N, N = L.length := ⟨_, rfl⟩
  have HN := Lib.hid hN
  rw [← hN] at HLN HR HBR
  have hNI : (N : Int) ≤ 80 := by omega
  clear hL hL2 hL3 hS hSm hT1 HM HR hN
  go_wp2_with (first
    | (go_at_call 26; ((with_reducible refine (HKY.out _ HV.out).mono ?_); rintro e w5 ⟨v, rfl, hs, hb⟩; obtain ⟨Ak, ck, he⟩ := SlV.form' hs; rw [ksV_length, ← HN.out] at he; subst he; have HS5 := Lib.hid hs; have H5 := Lib.hid hb; obtain ⟨⟨a0, a1, a2, a3⟩, -⟩ := box4 (blk_below HBM.out hb); clear hs hb))
    | (go_at_call 39; ((with_reducible refine (HFI.out _ H5.out).mono ?_); rintro e w6 ⟨v, rfl, rfl, hb⟩; have H6 := Lib.hid (below_trans H5.out hb); have HS := Lib.hid (HS5.out.below hb); clear hb))
    | fail)
  clear a0 a1 a2 a3 HV HKY HFI HS5 H5
  go_loopg [8, 10, 43] N (fun k v8 v10 v43 wr => Aside (StI L w6 N k v8 v10 v43 wr ()))
  case atStart =>
    show StI _ _ _ _ _ _ _ _ _
    exact ⟨0, rfl, by omega, rfl, rfl, Below.refl _ _⟩
  case round =>
    obtain ⟨i, rfl, hik, rfl, rfl, hB⟩ := hrel.out
    clear hrel
    by_cases hlt : i < N
    · have hltI : (i : Int) < (N : Int) := by omega
      obtain ⟨gk, rfl⟩ : ∃ g, gk = g + 1 := ⟨gk - 1, by omega⟩
      obtain ⟨⟨ek, ex⟩, he⟩ : ∃ e, L[i]? = some e := ⟨_, List.getElem?_eq_getElem (by rw [← HN.out]; exact hlt)⟩
      rw [plc_in he]
      obtain ⟨ad, rfl, hcs⟩ := HS.out.addr (by rw [ksV_length, ← HN.out]; omega)
      have hk := cell_below (hcs i (.string ek) (by simp [ksV, he])) hB
      have H0 := Lib.hid (below_trans H6.out hB)
      obtain ⟨⟨a0, a1, a2, a3⟩, -⟩ := box4 (blk_below HBM.out H0.out)
      have HA := Lib.hid (HAT.out i ek ex he)
      have HK := Lib.hid (HRK.out i ek ex he)
      have HX := Lib.hid (HNX.out i ek ex he)
      have HBB := Lib.hid hB
      by_cases hi0 : i = 0
      · have HP := Lib.hid (HPZ.out ek ex (hi0 ▸ he))
        have hi1 : ¬ (i : Int) > 0 := by omega
        have HI := Lib.hid hi0
        clear hB he hcs hi0
        go_wp2_with (first
        | (go_at_call 46; ((with_reducible refine (HA.out _ H0.out).mono ?_); rintro e w1 ⟨v, rfl, rfl, hb⟩; have G1 := Lib.hid (below_trans HBB.out hb); have hk := cell_below hk hb; have H1 := Lib.hid (below_trans H0.out hb); obtain ⟨⟨a0, a1, a2, a3⟩, -⟩ := box4 (blk_below HBM.out H1.out); clear hb))
        | (go_at_call 47; ((with_reducible refine (HK.out _ H1.out).mono ?_); rintro e w2 ⟨v, rfl, rfl, hb⟩; have G2 := Lib.hid (below_trans G1.out hb); have hk := cell_below hk hb; have H2 := Lib.hid (below_trans H1.out hb); obtain ⟨⟨a0, a1, a2, a3⟩, -⟩ := box4 (blk_below HBM.out H2.out); clear hb))
        | (go_at_call 44; ((with_reducible refine (HP.out _ H2.out).mono ?_); rintro e w3 ⟨v, rfl, rfl, hb⟩; have G3 := Lib.hid (below_trans G2.out hb); have hk := cell_below hk hb; have H3 := Lib.hid (below_trans H2.out hb); obtain ⟨⟨a0, a1, a2, a3⟩, -⟩ := box4 (blk_below HBM.out H3.out); clear hb))
        | (go_at_call 42; ((with_reducible refine (HX.out _ H3.out).mono ?_); rintro e w4 ⟨v, rfl, rfl, hb⟩; have HEND := Lib.hid (below_trans G3.out hb); have H4 := Lib.hid (below_trans H3.out hb); obtain ⟨⟨a0, a1, a2, a3⟩, -⟩ := box4 (blk_below HBM.out H4.out); clear hb))
        | fail)
        go_roundg gk
        case measure => omega
        case rel =>
          show StI _ _ _ _ _ _ _ _ _
          exact ⟨1, rfl, by have := HI.out; omega, rfl, rfl, HEND.out⟩
      · obtain ⟨j, hj⟩ : ∃ j, i = j + 1 := ⟨i - 1, by omega⟩
        obtain ⟨⟨ek', ex'⟩, he'⟩ : ∃ e, L[j]? = some e := ⟨_, List.getElem?_eq_getElem (by rw [← HN.out]; omega)⟩
        have HP := Lib.hid (HPS.out j ek ex ek' ex' (hj ▸ he) he')
        have hk' := cell_below (hcs j (.string ek') (by simp [ksV, he'])) hB
        have hj1 : (i : Int) > 0 := by omega
        have hj2 : IntKind.i64.wrap ((i : Int) - 1) = (j : Int) := by rw [IntKind.wrap_i64]; omega
        have hj3 : (j : Int) < (N : Int) := by omega
        clear hB he he' hcs hi0 hj
        go_wp2_with (first
        | (go_at_call 46; ((with_reducible refine (HA.out _ H0.out).mono ?_); rintro e w1 ⟨v, rfl, rfl, hb⟩; have G1 := Lib.hid (below_trans HBB.out hb); have hk := cell_below hk hb; have hk' := cell_below hk' hb; have H1 := Lib.hid (below_trans H0.out hb); obtain ⟨⟨a0, a1, a2, a3⟩, -⟩ := box4 (blk_below HBM.out H1.out); clear hb))
        | (go_at_call 47; ((with_reducible refine (HK.out _ H1.out).mono ?_); rintro e w2 ⟨v, rfl, rfl, hb⟩; have G2 := Lib.hid (below_trans G1.out hb); have hk := cell_below hk hb; have hk' := cell_below hk' hb; have H2 := Lib.hid (below_trans H1.out hb); obtain ⟨⟨a0, a1, a2, a3⟩, -⟩ := box4 (blk_below HBM.out H2.out); clear hb))
        | (go_at_call 44; ((with_reducible refine (HP.out _ H2.out).mono ?_); rintro e w3 ⟨v, rfl, rfl, hb⟩; have G3 := Lib.hid (below_trans G2.out hb); have hk := cell_below hk hb; have hk' := cell_below hk' hb; have H3 := Lib.hid (below_trans H2.out hb); obtain ⟨⟨a0, a1, a2, a3⟩, -⟩ := box4 (blk_below HBM.out H3.out); clear hb))
        | (go_at_call 42; ((with_reducible refine (HX.out _ H3.out).mono ?_); rintro e w4 ⟨v, rfl, rfl, hb⟩; have HEND := Lib.hid (below_trans G3.out hb); have H4 := Lib.hid (below_trans H3.out hb); obtain ⟨⟨a0, a1, a2, a3⟩, -⟩ := box4 (blk_below HBM.out H4.out); clear hb))
        | fail)
        go_roundg gk
        case measure => omega
        case rel =>
          show StI _ _ _ _ _ _ _ _ _
          exact ⟨i + 1, by first | rfl | (push_cast; rfl), by omega, rfl, rfl, HEND.out⟩
    · obtain rfl : i = N := by omega
      rw [plc_hi (by rw [HN.out]; exact Int.le_refl _)]
      have H0 := Lib.hid (below_trans H6.out hB)
      obtain ⟨⟨a0, a1, a2, a3⟩, -⟩ := box4 (blk_below HBM.out H0.out)
      clear hB
      go_wp2_with (first
        | (go_at_call 29; ((with_reducible refine (HLN.out _ H0.out).mono ?_); rintro e w1 ⟨v, rfl, rfl, hb⟩; have H1 := Lib.hid (below_trans H0.out hb); obtain ⟨⟨a0, a1, a2, a3⟩, -⟩ := box4 (blk_below HBM.out H1.out); clear hb))
        | fail)
      have HEND := Lib.hid (below_trans HW.out H1.out)
      go_returns
      exact ⟨rfl, HEND.out⟩

set_option maxHeartbeats 4000000 in
theorem steps_out (c : Cf) (v : Value) (T : Nat) (A : Option Addr) (cs : Nat) (bf : Bool) (W : World) (hv : v = .slice A T cs) (hT : Tab W) (hn : bf = false)
    (hf : ∀ V, Below W.heap.size W V → Calls Tryd.prog 37 #[v] V (Ret (fun u _ => u = .bool bf) V)) :
    Calls Tryd.prog 11 #[confV c, v] W (Tru W) := by
  subst hv
  have HT := Lib.hid hT; have HF := Lib.hid hf
  have HLV := Lib.hid (fun V hT => livep_c V hT)
  show Calls Tryd.prog 11 #[.agg #[.int .u64 (U c.1), .int .i64 c.2], .slice A T cs] W _
  generalize U c.1 = y
  generalize c.2 = b
  clear hT hf
  subst hn
  go_enter Tryd.func11, Tryd.ntmps11
  have hB0 := (Below.refl W.heap.size W).alloc (Nat.le_refl _) (.cells #[.int .u64 y, .int .i64 b] CT)
  go_wp2_with (first
    | (go_at_call 37; ((with_reducible refine (HF.out _ HB1.out).mono ?_); rintro e w2 ⟨v, rfl, rfl, hb2⟩; have HB2 := Lib.hid (below_trans HB1.out hb2); clear hb2))
    | (go_at_call 36; ((with_reducible refine (HLV.out _ (HT.out.below HB2.out)).mono ?_); rintro e w3 ⟨v, rfl, rfl, hb3⟩; have HB3 := Lib.hid (below_trans HB2.out hb3); clear hb3))
    | (go_at_call 36; ((with_reducible refine (HLV.out _ (HT.out.below hB0)).mono ?_); rintro e w1 ⟨v, rfl, rfl, hb1⟩; have HB1 := Lib.hid (below_trans hB0 hb1); clear hb1))
    | fail)
  go_returns
  exact ⟨rfl, HB3.out⟩

/-- THE NEXT KEY OF EACH GOES THROUGH ALL KEYS. -/
theorem steps_c (c : Cf) (v : Value) (os : List S2) (W : World) (hT : Tab W) (hO : PairsV W v os) : Calls Tryd.prog 11 #[confV c, v] W (Tru W) := by
  obtain ⟨b, hb, hf⟩ := fewp_c v os W hO
  obtain ⟨A, cs, hv, -⟩ := id hO
  cases b with
  | false => exact steps_out c v os.length A cs false W hv hT rfl hf
  | true => exact steps_in c v os W hT hO (hb rfl).1 (hb rfl).2 hf
end Go.Proofs.YtnegblckbomgdaaDoor.Ht
