/- What a map answers by the order of its keys. -/
import Derived.Test.YtnegblckbomgdaaDoorDcA
import Derived.Deep.DeepCutAuto
set_option linter.unusedVariables false
set_option linter.unusedSimpArgs false
namespace Go.Proofs.YtnegblckbomgdaaDoor.Ht
open Go Go.RowKit Go.Shelf Go.Proofs.YtnegblckbomgdaaDoor.Mem Go.Proofs.YtnegblckbomgdaaDoor.PA Go.Proofs.YtnegblckbomgdaaDoorW.PrintWords Go.Proofs.YtnegblckbomgdaaDoor.U64 Go.Proofs.YtnegblckbomgdaaDoor.Bs Go.Proofs.YtnegblckbomgdaaDoor

theorem mform {c : Cf} {K : Nat → Prop} {v : Value} {L : List Pr} {w : World} (h : MapV c K w v L) : ∃ y b n p, v = .agg #[.int .u64 y, .int .i64 b, .int .i64 n, .pointer p] ∧ n = (L.length : Int) ∧ Srt L ∧ Sm L := by
  obtain ⟨p, rfl, -, h1, h2⟩ := h
  exact ⟨_, _, _, p, rfl, rfl, h1, h2⟩
theorem got_at' {L : List Pr} (h : Srt L) {j : Nat} {e : Pr} (he : L[j]? = some e) : got L e.1 = .tuple #[.int .i64 e.2, .bool true] := by
  have : lkp L e.1 = some e.2 := (lkp_some h).2 (List.mem_of_getElem? he)
  unfold got
  rw [this]; rfl

set_option maxRecDepth 100000 in
set_option maxHeartbeats 4000000 in
theorem got_c (c : Cf) (K K' : Nat → Prop) (v s : Value) (L : List Pr) (i : Int) (w : World) (hM : MapV c K w v L) (hs : SlV K' w s (ksV L)) (hl : L.length ≤ 1000000) :
    Calls Tryd.prog 88 #[v, s, .int .i64 i] w (Ret (fun u _ => u = plcV L i) w) := by
  obtain ⟨y, b, n, p, rfl, -, hS, hSm⟩ := mform hM
  obtain ⟨A, cp, rfl⟩ := SlV.form' hs
  rw [ksV_length] at hs ⊢
  have hBx := blk_new w (.cells #[.int .u64 y, .int .i64 b, .int .i64 n, .pointer p] MT)
  have hB0 := (Below.refl w.heap.size w).alloc (Nat.le_refl _) (.cells #[.int .u64 y, .int .i64 b, .int .i64 n, .pointer p] MT)
  obtain ⟨N, hN⟩ : ∃ N, N = L.length := ⟨_, rfl⟩
  by_cases h0 : i < 0
  · unfold plcV
    rw [plc_neg h0, ← hN]
    clear hM hs hS hSm hl hBx hN
    go_enter Tryd.func88, Tryd.ntmps88
    go_wp2_with fail
    go_returns
    exact ⟨_, rfl, rfl, hB0⟩
  · by_cases h1 : i ≥ (N : Int)
    · unfold plcV
      rw [plc_hi (by omega), ← hN]
      clear hM hs hS hSm hl hBx hN
      go_enter Tryd.func88, Tryd.ntmps88
      go_wp2_with fail
      go_returns
      exact ⟨_, rfl, rfl, hB0⟩
    · obtain ⟨j, rfl⟩ : ∃ j : Nat, i = j := ⟨i.toNat, by omega⟩
      have he : L[j]? = some L[j] := List.getElem?_eq_getElem (by omega)
      generalize L[j] = e at he
      unfold plcV
      rw [plc_in he, ← hN]
      have HG := Lib.hid (fun V (hV : Below w.heap.size w V) => (show Calls Tryd.prog 27 #[.agg #[.int .u64 y, .int .i64 b, .int .i64 n, .pointer p], .string e.1] V (Ret (fun v _ => v = .tuple #[.int .i64 e.2, .bool true]) V) from got_at' hS he ▸ mget_c c K _ L e.1 (hSm e (List.mem_of_getElem? he)) V (hM.below hV) hl))
      obtain ⟨ad, rfl, hk⟩ := hs.addr (by rw [ksV_length]; omega)
      have hk := hk j (.string e.1) (by simp [ksV, he])
      have hjN : (j : Int) < (N : Int) := by omega
      have k0 := cell_below hk hB0
      have HB0 := Lib.hid hB0
      obtain ⟨ek, ex⟩ := e
      dsimp only at HG k0 ⊢
      clear hM hs hS hSm hl he hk hB0 hN
      go_enter Tryd.func88, Tryd.ntmps88
      go_upto_region 4 with fail
      obtain ⟨⟨a0, a1, a2, a3⟩, -⟩ := box4 hBx
      clear hBx
      generalize w.alloc (.cells #[.int .u64 y, .int .i64 b, .int .i64 n, .pointer p] MT) = V at *
      generalize w.heap.size = g at a0 a1 a2 a3 ⊢
      go_region_held3 (fun w' => (w'.cell? ⟨g, 0, none⟩ = some (.int .u64 y) ∧ w'.cell? ⟨g, 1, none⟩ = some (.int .i64 b) ∧ w'.cell? ⟨g, 2, none⟩ = some (.int .i64 n) ∧ w'.cell? ⟨g, 3, none⟩ = some (.pointer p)) ∧ w'.cell? (ad.add j) = some (.string ek))
        ((refine ⟨⟨?_, ?_, ?_, ?_⟩, ?_⟩ <;> first | (with_reducible assumption) | (with_reducible exact cell_below a0 (by assumption)) | (with_reducible exact cell_below a1 (by assumption)) | (with_reducible exact cell_below a2 (by assumption)) | (with_reducible exact cell_below a3 (by assumption)) | (with_reducible exact cell_below k0 (by assumption)) | (go_keep; done)))
        (first
          | (go_at_call 27; (with_reducible refine (HG.out _ HB0.out.drew).mono ?_); rintro e w5 ⟨v, rfl, rfl, hb5⟩; have hb5 := below_trans (w1 := World.drew _) (Below.refl _ _).drew hb5)
          | fail)
      have k1 := cell_below k0 hb5
      go_wp2_with fail
      go_returns
      exact ⟨_, rfl, rfl, below_trans HB0.out hb5⟩

set_option maxRecDepth 100000 in
set_option maxHeartbeats 4000000 in
theorem at_c (c : Cf) (K : Nat → Prop) (v : Value) (L : List Pr) (i : Int) (w : World) (hM : MapV c K w v L) (hl : L.length ≤ 1000) (hT : Tab w) :
    Calls Tryd.prog 46 #[v, .int .i64 i] w (Ret (fun u _ => u = plcV L i) w) := by
  obtain ⟨y, b, n, p, rfl, -, -, -⟩ := mform hM
  have hBx := blk_new w (.cells #[.int .u64 y, .int .i64 b, .int .i64 n, .pointer p] MT)
  have hB0 := (Below.refl w.heap.size w).alloc (Nat.le_refl _) (.cells #[.int .u64 y, .int .i64 b, .int .i64 n, .pointer p] MT)
  have HK := Lib.hid (fun V (hV : Below w.heap.size w V) => keys_c c K _ L V (hM.below hV) hl (hT.below hV))
  have HG := Lib.hid (fun (J : Nat → Prop) (s : Value) V (hV : Below w.heap.size w V) (hs : SlV J V s (ksV L)) => got_c c K J _ s L i V (hM.below hV) hs (by omega))
  have HB0 := Lib.hid hB0
  clear hM hl hT hB0
  unfold plcV at HG ⊢
  generalize plc L i = r at HG ⊢
  obtain ⟨r1, r2, r3⟩ := r
  dsimp only at HG ⊢
  go_enter Tryd.func46, Tryd.ntmps46
  go_upto_region 1 with fail
  obtain ⟨⟨a0, a1, a2, a3⟩, -⟩ := box4 hBx
  clear hBx
  generalize w.alloc (.cells #[.int .u64 y, .int .i64 b, .int .i64 n, .pointer p] MT) = V at *
  generalize w.heap.size = g at a0 a1 a2 a3 ⊢
  go_region_held3 (fun w' => w'.cell? ⟨g, 0, none⟩ = some (.int .u64 y) ∧ w'.cell? ⟨g, 1, none⟩ = some (.int .i64 b) ∧ w'.cell? ⟨g, 2, none⟩ = some (.int .i64 n) ∧ w'.cell? ⟨g, 3, none⟩ = some (.pointer p))
    ((refine ⟨?_, ?_, ?_, ?_⟩ <;> (first | (with_reducible assumption) | (with_reducible exact cell_below a0 (by assumption)) | (with_reducible exact cell_below a1 (by assumption)) | (with_reducible exact cell_below a2 (by assumption)) | (with_reducible exact cell_below a3 (by assumption)) | (go_keep; done))))
    (first
      | (go_at_call 26; (with_reducible refine (HK.out _ HB0.out.drew).mono ?_); rintro e w5 ⟨v, rfl, hs5, hb5⟩; have hb5 := below_trans (w1 := World.drew _) (Below.refl _ _).drew hb5)
      | (go_at_call 88; (with_reducible refine (HG.out _ _ _ (below_trans HB0.out hb5) hs5).mono ?_); rintro e w6 ⟨v, rfl, rfl, hb6⟩; have hb6 := below_trans hb5 hb6)
      | fail)
  go_wp2_with fail
  go_returns
  exact ⟨_, rfl, rfl, below_trans HB0.out hb6⟩

set_option maxRecDepth 100000 in
set_option maxHeartbeats 4000000 in
theorem next_c (c : Cf) (K : Nat → Prop) (v : Value) (L : List Pr) (k : ByteArray) (w : World) (hM : MapV c K w v L) (hl : L.length ≤ 1000) (hT : Tab w) :
    Calls Tryd.prog 42 #[v, .string k] w (Ret (fun u _ => u = plcV L (nxt L k)) w) := by
  obtain ⟨y, b, n, p, rfl, HNN, hS, hSm⟩ := mform hM
  have hBx := blk_new w (.cells #[.int .u64 y, .int .i64 b, .int .i64 n, .pointer p] MT)
  have HBx := Lib.hid hBx
  have hB0 := (Below.refl w.heap.size w).alloc (Nat.le_refl _) (.cells #[.int .u64 y, .int .i64 b, .int .i64 n, .pointer p] MT)
  have HB0 := Lib.hid hB0
  have HK := Lib.hid (fun V (hV : Below w.heap.size w V) => keys_c c K _ L V (hM.below hV) hl (hT.below hV))
  have HBL := Lib.hid (fun (J : Nat → Prop) (s : Value) V (hs : SlV J V s (ksV L)) => below_c J s L hS (by omega) k V hs)
  have HG := Lib.hid (fun (J : Nat → Prop) (s : Value) V (hV : Below w.heap.size w V) (hs : SlV J V s (ksV L)) => got_c c K J _ s L (nxt L k) V (hM.below hV) hs (by omega))
  unfold plcV at HG ⊢
  generalize plc L (nxt L k) = r at HG ⊢
  obtain ⟨r1, r2, r3⟩ := r
  dsimp only at HG ⊢
  unfold nxt at HG
  have hq := rnk_le L k
  have hq2 : (rnk L k : Int) ≤ 1000 := by omega
  generalize rnk L k = q at *
  generalize (lkp L k).isSome = is at *
  clear hM hl hT hB0 hS hSm HNN hq
  have hW : IntKind.i64.wrap ((q : Int) + 1) = (q : Int) + 1 := by rw [IntKind.wrap_i64]; omega
  cases is with
  | true =>
    rw [if_pos rfl] at HG
    go_enter Tryd.func42, Tryd.ntmps42
    obtain ⟨⟨a0, a1, a2, a3⟩, -⟩ := box4 hBx
    clear hBx
    go_wp2_with (first
      | (go_at_call 26; ((with_reducible refine (HK.out _ HB0.out).mono ?_); rintro e w1 ⟨v, rfl, hs1, hb1⟩; obtain ⟨A1, c1, rfl⟩ := SlV.form' hs1; have HS1 := Lib.hid hs1; have H1 := Lib.hid hb1; clear hs1 hb1))
      | (go_at_call 87; ((with_reducible refine (HBL.out _ _ _ HS1.out).mono ?_); rintro e w2 ⟨v, rfl, rfl, hb2⟩; have H2 := Lib.hid (below_trans H1.out hb2); have HS2 := Lib.hid (HS1.out.below hb2); obtain ⟨⟨a0, a1, a2, a3⟩, -⟩ := box4 (blk_below HBx.out H2.out); clear hb2))
      | (go_at_call 88; ((with_reducible refine (HG.out _ _ _ (below_trans HB0.out H2.out) HS2.out).mono ?_); rintro e w3 ⟨v, rfl, rfl, hb3⟩; have H3 := Lib.hid (below_trans H2.out hb3); clear hb3))
      | fail)
    go_returns
    exact ⟨_, rfl, rfl, below_trans HB0.out H3.out⟩
  | false =>
    rw [if_neg (by decide)] at HG
    go_enter Tryd.func42, Tryd.ntmps42
    obtain ⟨⟨a0, a1, a2, a3⟩, -⟩ := box4 hBx
    clear hBx
    go_wp2_with (first
      | (go_at_call 26; ((with_reducible refine (HK.out _ HB0.out).mono ?_); rintro e w1 ⟨v, rfl, hs1, hb1⟩; obtain ⟨A1, c1, rfl⟩ := SlV.form' hs1; have HS1 := Lib.hid hs1; have H1 := Lib.hid hb1; clear hs1 hb1))
      | (go_at_call 87; ((with_reducible refine (HBL.out _ _ _ HS1.out).mono ?_); rintro e w2 ⟨v, rfl, rfl, hb2⟩; have H2 := Lib.hid (below_trans H1.out hb2); have HS2 := Lib.hid (HS1.out.below hb2); obtain ⟨⟨a0, a1, a2, a3⟩, -⟩ := box4 (blk_below HBx.out H2.out); clear hb2))
      | (go_at_call 88; ((with_reducible refine (HG.out _ _ _ (below_trans HB0.out H2.out) HS2.out).mono ?_); rintro e w3 ⟨v, rfl, rfl, hb3⟩; have H3 := Lib.hid (below_trans H2.out hb3); clear hb3))
      | fail)
    go_returns
    exact ⟨_, rfl, rfl, below_trans HB0.out H3.out⟩

set_option maxRecDepth 100000 in
set_option maxHeartbeats 4000000 in
theorem prev_c (c : Cf) (K : Nat → Prop) (v : Value) (L : List Pr) (k : ByteArray) (w : World) (hM : MapV c K w v L) (hl : L.length ≤ 1000) (hT : Tab w) :
    Calls Tryd.prog 44 #[v, .string k] w (Ret (fun u _ => u = plcV L ((rnk L k : Int) - 1)) w) := by
  obtain ⟨y, b, n, p, rfl, HNN, hS, hSm⟩ := mform hM
  have hBx := blk_new w (.cells #[.int .u64 y, .int .i64 b, .int .i64 n, .pointer p] MT)
  have HBx := Lib.hid hBx
  have hB0 := (Below.refl w.heap.size w).alloc (Nat.le_refl _) (.cells #[.int .u64 y, .int .i64 b, .int .i64 n, .pointer p] MT)
  have HB0 := Lib.hid hB0
  have HK := Lib.hid (fun V (hV : Below w.heap.size w V) => keys_c c K _ L V (hM.below hV) hl (hT.below hV))
  have HBL := Lib.hid (fun (J : Nat → Prop) (s : Value) V (hs : SlV J V s (ksV L)) => below_c J s L hS (by omega) k V hs)
  have HG := Lib.hid (fun (J : Nat → Prop) (s : Value) V (hV : Below w.heap.size w V) (hs : SlV J V s (ksV L)) => got_c c K J _ s L ((rnk L k : Int) - 1) V (hM.below hV) hs (by omega))
  unfold plcV at HG ⊢
  generalize plc L ((rnk L k : Int) - 1) = r at HG ⊢
  obtain ⟨r1, r2, r3⟩ := r
  dsimp only at HG ⊢
  have hq := rnk_le L k
  have hq2 : (rnk L k : Int) ≤ 1000 := by omega
  generalize rnk L k = q at *
  generalize (lkp L k).isSome = is at *
  clear hM hl hT hB0 hS hSm HNN hq
  go_enter Tryd.func44, Tryd.ntmps44
  obtain ⟨⟨a0, a1, a2, a3⟩, -⟩ := box4 hBx
  clear hBx
  go_wp2_with (first
    | (go_at_call 26; ((with_reducible refine (HK.out _ HB0.out).mono ?_); rintro e w1 ⟨v, rfl, hs1, hb1⟩; obtain ⟨A1, c1, rfl⟩ := SlV.form' hs1; have HS1 := Lib.hid hs1; have H1 := Lib.hid hb1; clear hs1 hb1))
    | (go_at_call 87; ((with_reducible refine (HBL.out _ _ _ HS1.out).mono ?_); rintro e w2 ⟨v, rfl, rfl, hb2⟩; have H2 := Lib.hid (below_trans H1.out hb2); have HS2 := Lib.hid (HS1.out.below hb2); obtain ⟨⟨a0, a1, a2, a3⟩, -⟩ := box4 (blk_below HBx.out H2.out); clear hb2))
    | (go_at_call 88; ((with_reducible refine (HG.out _ _ _ (below_trans HB0.out H2.out) HS2.out).mono ?_); rintro e w3 ⟨v, rfl, rfl, hb3⟩; have H3 := Lib.hid (below_trans H2.out hb3); clear hb3))
    | fail)
  go_returns
  exact ⟨_, rfl, rfl, below_trans HB0.out H3.out⟩

set_option maxRecDepth 100000 in
set_option maxHeartbeats 4000000 in
theorem rank_q (c : Cf) (K : Nat → Prop) (v : Value) (L : List Pr) (k : ByteArray) (w : World) (hM : MapV c K w v L) (hl : L.length ≤ 1000) (hT : Tab w) :
    Calls Tryd.prog 47 #[v, .string k] w (Ret (fun u _ => u = .int .i64 (rnk L k : Int)) w) := by
  obtain ⟨y, b, n, p, rfl, HNN, hS, hSm⟩ := mform hM
  have hBx := blk_new w (.cells #[.int .u64 y, .int .i64 b, .int .i64 n, .pointer p] MT)
  have HBx := Lib.hid hBx
  have hB0 := (Below.refl w.heap.size w).alloc (Nat.le_refl _) (.cells #[.int .u64 y, .int .i64 b, .int .i64 n, .pointer p] MT)
  have HB0 := Lib.hid hB0
  have HK := Lib.hid (fun V (hV : Below w.heap.size w V) => keys_c c K _ L V (hM.below hV) hl (hT.below hV))
  have HBL := Lib.hid (fun (J : Nat → Prop) (s : Value) V (hs : SlV J V s (ksV L)) => below_c J s L hS (by omega) k V hs)
  have hq := rnk_le L k
  have hq2 : (rnk L k : Int) ≤ 1000 := by omega
  generalize rnk L k = q at *
  generalize (lkp L k).isSome = is at *
  clear hM hl hT hB0 hS hSm HNN hq
  go_enter Tryd.func47, Tryd.ntmps47
  obtain ⟨⟨a0, a1, a2, a3⟩, -⟩ := box4 hBx
  clear hBx
  go_wp2_with (first
    | (go_at_call 26; ((with_reducible refine (HK.out _ HB0.out).mono ?_); rintro e w1 ⟨v, rfl, hs1, hb1⟩; obtain ⟨A1, c1, rfl⟩ := SlV.form' hs1; have HS1 := Lib.hid hs1; have H1 := Lib.hid hb1; clear hs1 hb1))
    | (go_at_call 87; ((with_reducible refine (HBL.out _ _ _ HS1.out).mono ?_); rintro e w2 ⟨v, rfl, rfl, hb2⟩; have H2 := Lib.hid (below_trans H1.out hb2); have HS2 := Lib.hid (HS1.out.below hb2); obtain ⟨⟨a0, a1, a2, a3⟩, -⟩ := box4 (blk_below HBx.out H2.out); clear hb2))
    | fail)
  go_returns
  exact ⟨_, rfl, rfl, below_trans HB0.out H2.out⟩

set_option maxRecDepth 100000 in
set_option maxHeartbeats 4000000 in
theorem first_q (c : Cf) (K : Nat → Prop) (v : Value) (L : List Pr) (w : World) (hM : MapV c K w v L) (hl : L.length ≤ 1000) (hT : Tab w) :
    Calls Tryd.prog 39 #[v] w (Ret (fun u _ => u = plcV L 0) w) := by
  obtain ⟨y, b, n, p, rfl, HNN, hS, hSm⟩ := mform hM
  have hBx := blk_new w (.cells #[.int .u64 y, .int .i64 b, .int .i64 n, .pointer p] MT)
  have HBx := Lib.hid hBx
  have hB0 := (Below.refl w.heap.size w).alloc (Nat.le_refl _) (.cells #[.int .u64 y, .int .i64 b, .int .i64 n, .pointer p] MT)
  have HB0 := Lib.hid hB0
  have HA := Lib.hid (fun V (hV : Below w.heap.size w V) => at_c c K _ L 0 V (hM.below hV) hl (hT.below hV))
  unfold plcV at HA ⊢
  generalize plc L 0 = r at HA ⊢
  obtain ⟨r1, r2, r3⟩ := r
  dsimp only at HA ⊢
  obtain ⟨⟨a0, a1, a2, a3⟩, -⟩ := box4 hBx
  clear hM hl hT hB0 hS hSm HNN hBx HBx
  go_enter Tryd.func39, Tryd.ntmps39
  go_wp2_with (first
    | (go_at_call 46; ((with_reducible refine (HA.out _ HB0.out).mono ?_); rintro e w1 ⟨v, rfl, rfl, hb1⟩; have H1 := Lib.hid hb1; clear hb1))
    | fail)
  go_returns
  exact ⟨_, rfl, rfl, below_trans HB0.out H1.out⟩

set_option maxRecDepth 100000 in
set_option maxHeartbeats 4000000 in
theorem last_q (c : Cf) (K : Nat → Prop) (v : Value) (L : List Pr) (w : World) (hM : MapV c K w v L) (hl : L.length ≤ 1000) (hT : Tab w) :
    Calls Tryd.prog 41 #[v] w (Ret (fun u _ => u = plcV L ((L.length : Int) - 1)) w) := by
  obtain ⟨y, b, n, p, rfl, HNN, hS, hSm⟩ := mform hM
  have hBx := blk_new w (.cells #[.int .u64 y, .int .i64 b, .int .i64 n, .pointer p] MT)
  have HBx := Lib.hid hBx
  have hB0 := (Below.refl w.heap.size w).alloc (Nat.le_refl _) (.cells #[.int .u64 y, .int .i64 b, .int .i64 n, .pointer p] MT)
  have HB0 := Lib.hid hB0
  have hW : IntKind.i64.wrap ((L.length : Int) - 1) = (L.length : Int) - 1 := by rw [IntKind.wrap_i64]; omega
  have HA := Lib.hid (fun (i : Int) (hi : i = (L.length : Int) - 1) V (hV : Below w.heap.size w V) => (show Calls Tryd.prog 46 #[.agg #[.int .u64 y, .int .i64 b, .int .i64 n, .pointer p], .int .i64 i] V (Ret (fun u _ => u = plcV L ((L.length : Int) - 1)) V) from hi ▸ at_c c K _ L i V (hM.below hV) hl (hT.below hV)))
  have HL := Lib.hid (fun V (hV : Below w.heap.size w V) => mlen_c c K _ L V (hM.below hV))
  unfold plcV at HA ⊢
  generalize plc L ((L.length : Int) - 1) = r at HA ⊢
  obtain ⟨r1, r2, r3⟩ := r
  dsimp only at HA ⊢
  have HW := Lib.hid hW
  clear hM hl hT hB0 hS hSm HBx hW
  subst HNN
  generalize (L.length : Int) = n at *
  go_enter Tryd.func41, Tryd.ntmps41
  go_upto_region 1 with fail
  obtain ⟨⟨a0, a1, a2, a3⟩, -⟩ := box4 hBx
  clear hBx
  generalize w.alloc (.cells #[.int .u64 y, .int .i64 b, .int .i64 n, .pointer p] MT) = V at *
  generalize w.heap.size = g at a0 a1 a2 a3 ⊢
  go_region_held3 (fun w' => w'.cell? ⟨g, 0, none⟩ = some (.int .u64 y) ∧ w'.cell? ⟨g, 1, none⟩ = some (.int .i64 b) ∧ w'.cell? ⟨g, 2, none⟩ = some (.int .i64 n) ∧ w'.cell? ⟨g, 3, none⟩ = some (.pointer p))
    ((refine ⟨?_, ?_, ?_, ?_⟩ <;> (first | (with_reducible assumption) | (with_reducible exact cell_below a0 (by assumption)) | (with_reducible exact cell_below a1 (by assumption)) | (with_reducible exact cell_below a2 (by assumption)) | (with_reducible exact cell_below a3 (by assumption)) | (go_keep; done))))
    (first
      | (go_at_call 29; (with_reducible refine (HL.out _ HB0.out.drew).mono ?_); rintro e w5 ⟨v, rfl, rfl, hb5⟩; have hb5 := below_trans (w1 := World.drew _) (Below.refl _ _).drew hb5)
      | (go_at_call 46; (with_reducible refine (HA.out _ HW.out _ (below_trans HB0.out hb5)).mono ?_); rintro e w6 ⟨v, rfl, rfl, hb6⟩; have hb6 := below_trans hb5 hb6)
      | fail)
  go_wp2_with fail
  go_returns
  exact ⟨_, rfl, rfl, below_trans HB0.out hb6⟩
end Go.Proofs.YtnegblckbomgdaaDoor.Ht
