/- Maps of one hash with the same keys have one shape: the walk. -/
import Derived.Test.YtnegblckbomgdaaDoorHsCA
import Derived.Deep.DeepCutAuto
set_option linter.unusedVariables false
set_option linter.unusedSimpArgs false
namespace Go.Proofs.YtnegblckbomgdaaDoor.Ht
open Go Go.RowKit Go.Shelf Go.Proofs.YtnegblckbomgdaaDoor.Mem Go.Proofs.YtnegblckbomgdaaDoor.PA Go.Proofs.YtnegblckbomgdaaDoorW.PrintWords Go.Proofs.YtnegblckbomgdaaDoor.U64 Go.Proofs.YtnegblckbomgdaaDoor

def OsA (c : Cf) (y b : Int) (W : World) (h1 h2 T k : Nat) (v38 : Value) (wr : World) (_u : Unit) : Prop :=
  ∃ (i : Nat) (n : Int) (p : Option Addr) (L : List Pr), v38 = .int .i64 (i : Int) ∧ i + k = T ∧ L.length ≤ i ∧ Tw2 c y b h1 h2 n p 0 none L [] wr ∧ Below W.heap.size W wr
def OsB (c : Cf) (y b : Int) (W : World) (h1 h2 : Nat) (n : Int) (p : Option Addr) (L : List Pr) (more : List ByteArray) (N k : Nat) (v48 : Value) (wr : World) (_u : Unit) : Prop :=
  ∃ (j : Nat) (n' : Int) (p' : Option Addr) (M : List Pr), v48 = .int .i64 (j : Int) ∧ j + k = N ∧ M.length ≤ j ∧ Tw2 c y b h1 h2 n p n' p' L M wr ∧ (∀ x, lkp M x ≠ none → x ∈ more.take j) ∧ (∀ x ∈ more.take j, x.size ≤ 200) ∧ Below W.heap.size W wr
def OsC (c : Cf) (y b : Int) (W : World) (kv : Value) (h1 h2 : Nat) (n : Int) (p : Option Addr) (L : List Pr) (more : List ByteArray) (N N1 k : Nat) (v63 : Value) (wr : World) (_u : Unit) : Prop :=
  ∃ (i : Nat) (n' : Int) (p' : Option Addr) (M : List Pr), v63 = .int .i64 (i : Int) ∧ i + k = N1 ∧ M.length ≤ N + i ∧ Tw2 c y b h1 h2 n p n' p' L M wr ∧ (∀ e ∈ L.drop (L.length - i), lkp M e.1 ≠ none) ∧ (∀ x, lkp M x ≠ none → x ∈ more ∨ lkp L x ≠ none) ∧ Below W.heap.size W wr ∧ SlV (fun x => x ≠ h2) wr kv (ksV L)
def OsD (c : Cf) (y b : Int) (W : World) (kv : Value) (h1 h2 : Nat) (n : Int) (p : Option Addr) (L : List Pr) (more : List ByteArray) (N k : Nat) (v79 : Value) (wr : World) (_u : Unit) : Prop :=
  ∃ (j : Nat) (n' : Int) (p' : Option Addr) (M : List Pr), v79 = .int .i64 (j : Int) ∧ j + k = N ∧ M.length ≤ 1000 ∧ Tw2 c y b h1 h2 n p n' p' L M wr ∧ (∀ x, lkp L x ≠ none → lkp M x ≠ none) ∧ (∀ x, lkp M x ≠ none → x ∈ more.drop j ∨ lkp L x ≠ none) ∧ Below W.heap.size W wr ∧ SlV (fun x => x ≠ h2) wr kv (ksV L)

set_option maxRecDepth 100000 in
set_option maxHeartbeats 16000000 in
theorem one_in (c : Cf) (v : Value) (os : List S3) (vm : Value) (more : List ByteArray) (W : World) (hT : Tab W) (hO : OpsV W v os) (hX : StrV W vm more) (hml : more.length ≤ 60) (hl : os.length ≤ 120) (hk : ∀ o ∈ os, o.f0.size ≤ 200)
    (hf : ∀ V, Below W.heap.size W V → Calls Tryd.prog 18 #[v] V (Ret (fun u _ => u = .bool true) V)) :
    Calls Tryd.prog 5 #[confV c, v, vm] W (Tru W) := by
  obtain ⟨As, cs, rfl, -⟩ := id hO
  obtain ⟨Bs, ds, rfl⟩ := hX.form
  obtain ⟨y, hy⟩ : ∃ y, U c.1 = y := ⟨_, rfl⟩
  obtain ⟨b, hb⟩ : ∃ b, c.2 = b := ⟨_, rfl⟩
  have HT := Lib.hid hT; have HO := Lib.hid hO; have HK := Lib.hid hk; have HF := Lib.hid hf; have HY := Lib.hid hy; have HBE := Lib.hid hb
  have HLV := Lib.hid (fun V hT => live_c V hT)
  have HNA := Lib.hid (fun V => (show Calls Tryd.prog 19 #[.agg #[.int .u64 y, .int .i64 b]] V (Ret (fun v _ => v = .agg #[.int .u64 y, .int .i64 b, .int .i64 0, .pointer none]) V) from new_w y b V))
  show Calls Tryd.prog 5 #[.agg #[.int .u64 (U c.1), .int .i64 c.2], .slice As os.length cs, .slice Bs more.length ds] W _
  rw [hy, hb]
  obtain ⟨T, hTe⟩ : ∃ T, T = os.length := ⟨_, rfl⟩
  obtain ⟨N, hNe⟩ : ∃ N, N = more.length := ⟨_, rfl⟩
  rw [← hTe] at HO HF hl ⊢
  rw [← hNe] at hX hml ⊢
  have HTE := Lib.hid hTe; have HNE := Lib.hid hNe; have HX := Lib.hid hX
  have hnI : ¬ (N : Int) > 60 := by omega
  have hnI2 : (N : Int) ≤ 60 := by omega
  have HB0 := Lib.hid ((Below.refl W.heap.size W).alloc (Nat.le_refl _) (.cells #[.int .u64 y, .int .i64 b] CT))
  have HC0 := Lib.hid (blk_new W (.cells #[.int .u64 y, .int .i64 b] CT))
  clear hT hO hk hf hTe hNe hy hb hX
  go_enter Tryd.func5, Tryd.ntmps5
  go_upto_region 3 with (first
    | (go_at_call 17; ((with_reducible refine (HLV.out _ (HT.out.below HB0.out)).mono ?_); rintro e w1 ⟨v, rfl, rfl, hb1⟩; have HB1 := Lib.hid (below_trans HB0.out hb1); have HC1 := Lib.hid (blk_below HC0.out hb1); clear hb1))
    | (go_at_call 18; ((with_reducible refine (HF.out _ HB1.out).mono ?_); rintro e w2 ⟨v, rfl, rfl, hb2⟩; have HVW := Lib.hid (below_trans HB1.out hb2); have HCV := Lib.hid (blk_below HC1.out hb2); clear hb2))
    | fail)
  clear HB0 HB1 HC0 HC1 HLV HF
  generalize w2 = V at *
  obtain ⟨⟨a0, a1⟩, -⟩ := box2 HCV.out
  go_cut [7, 8] from 7 (fun s7 s8 wx => ∃ h1 h2 : Nat, s7 = .pointer (some ⟨h1, 0, none⟩) ∧ s8 = .pointer (some ⟨h2, 0, none⟩) ∧ Aside (P3 V h1 h2 y b 0 none y b 0 none wx))
  case first =>
      refine wp_region_noPanic ?_
      refine RegL.wp_region_late [6, 7] (fun (w' : World) => w'.cell? ⟨W.heap.size, 0, none⟩ = some (.int .u64 y) ∧ w'.cell? ⟨W.heap.size, 1, none⟩ = some (.int .i64 b)) (by kernel_rfl) ?_
      have hS0 : (fun (w' : World) => w'.cell? ⟨W.heap.size, 0, none⟩ = some (.int .u64 y) ∧ w'.cell? ⟨W.heap.size, 1, none⟩ = some (.int .i64 b)) V.drew := ⟨a0, a1⟩
      have HV_ := Lib.hid ((Below.refl V.heap.size V).drew)
      have hz_ : V.heap.size ≤ V.drew.heap.size := Nat.le_refl _
      have Z_ := Lib.hid hz_
      clear hz_
      show RegL.wpAnyL _ _ _ _ _ _ 8 _ _ _
      generalize V.drew = V0 at hS0 HV_ Z_ ⊢
      refine RegL.wpAnyL_take (i := 0) (oi := ⟨some 32, Op.load 24 (Operand.tmp 3), _, _, _, _⟩) (v := ?vvr31) rfl (by kernel_rfl) (by kernel_rfl) (by kernel_rfl) (by kernel_rfl) (by kernel_rfl) (by kernel_rfl) (fun _ _ _ h => h) (Or.inl ⟨by rfl, ?hyr31⟩) hS0 ?restr31
      case hyr31 => ((intro w hSw; (try dsimp only at hSw); go_simp) <;> with_reducible rfl)
      try simp only [Act.put, List.setIfInBounds_toArray, List.set_cons_zero, List.set_cons_succ]
      refine RegL.wpAnyL_take (i := 2) (oi := ⟨some 34, Op.load 24 (Operand.tmp 3), _, _, _, _⟩) (v := ?vvr32) rfl (by kernel_rfl) (by kernel_rfl) (by kernel_rfl) (by kernel_rfl) (by kernel_rfl) (by kernel_rfl) (fun _ _ _ h => h) (Or.inl ⟨by rfl, ?hyr32⟩) hS0 ?restr32
      case hyr32 => ((intro w hSw; (try dsimp only at hSw); go_simp) <;> with_reducible rfl)
      try simp only [Act.put, List.setIfInBounds_toArray, List.set_cons_zero, List.set_cons_succ]
      refine RegL.wpAnyL_ready (rs := [1, 4, 5]) (by kernel_rfl) (by simp) ?_
      refine RegL.AllReadyL.calm (o := ⟨some 33, Op.call { callee := Callee.value (Operand.func 19), args := #[Operand.tmp 32], argTypes := #[24] }, _, _, _, _⟩) rfl (fun K hK => ?_) ?_
      · go_simp
        refine (HNA.out _).mono ?_
        rintro e w_1 ⟨v, rfl, rfl, hb⟩
        have HE_1 := Lib.hid hb
        clear hb
        have Z_1 := Lib.hid HE_1.out.size
        have HV_1 := Lib.hid (below_trans HV_.out HE_1.out)
        (try dsimp only)
        refine hK.out _ _ (⟨cell_below hS0.1 HE_1.out, cell_below hS0.2 HE_1.out⟩) (fun hS0x => ?_)
        clear hK K
        try simp only [Act.put, List.setIfInBounds_toArray, List.set_cons_zero, List.set_cons_succ]
        refine RegL.wpAnyL_ready (rs := [3, 4, 5]) (by kernel_rfl) (by simp) ?_
        refine RegL.AllReadyL.calm (o := ⟨some 35, Op.call { callee := Callee.value (Operand.func 19), args := #[Operand.tmp 34], argTypes := #[24] }, _, _, _, _⟩) rfl (fun K hK => ?_) ?_
        · go_simp
          refine (HNA.out _).mono ?_
          rintro e w_13 ⟨v, rfl, rfl, hb⟩
          have HE_13 := Lib.hid hb
          clear hb
          have Z_13 := Lib.hid HE_13.out.size
          have HV_13 := Lib.hid (below_trans HV_1.out HE_13.out)
          (try dsimp only)
          refine hK.out _ _ (⟨cell_below hS0x.1 HE_13.out, cell_below hS0x.2 HE_13.out⟩) (fun hS0xx => ?_)
          clear hK K
          try simp only [Act.put, List.setIfInBounds_toArray, List.set_cons_zero, List.set_cons_succ]
          refine RegL.wpAnyL_ready (rs := [4, 5]) (by kernel_rfl) (by simp) ?_
          refine RegL.AllReadyL.calm (o := ⟨some 7, Op.alloc 30, _, _, _, _⟩) rfl (fun K hK => ?_) ?_
          · go_simp
            have hb := (Below.refl w_13.heap.size w_13).alloc (Nat.le_refl _) (.cells #[.int .u64 0, .int .i64 0, .int .i64 0, .pointer none] MT)
            have hB := blk_new w_13 (.cells #[.int .u64 0, .int .i64 0, .int .i64 0, .pointer none] MT)
            have hz : (w_13.alloc (.cells #[.int .u64 0, .int .i64 0, .int .i64 0, .pointer none] MT)).heap.size = w_13.heap.size + 1 := by simp
            obtain ⟨h1, hh⟩ : ∃ h, h = w_13.heap.size := ⟨_, rfl⟩
            have Xh1_134 := Lib.hid hh
            rw [← hh] at hB ⊢
            clear hh
            generalize w_13.alloc (.cells #[.int .u64 0, .int .i64 0, .int .i64 0, .pointer none] MT) = w_134 at hb hB hz ⊢
            have HE_134 := Lib.hid hb; have Bh1_134 := Lib.hid hB; have Y_134 := Lib.hid hz
            clear hb hB hz
            have Z_134 := Lib.hid HE_134.out.size
            have HV_134 := Lib.hid (below_trans HV_13.out HE_134.out)
            (try dsimp only)
            refine hK.out _ _ (⟨cell_below hS0xx.1 HE_134.out, cell_below hS0xx.2 HE_134.out⟩) (fun hS0xxx => ?_)
            clear hK K
            try simp only [Act.put, List.setIfInBounds_toArray, List.set_cons_zero, List.set_cons_succ]
            refine RegL.wpAnyL_ready (rs := [5]) (by kernel_rfl) (by simp) ?_
            refine RegL.AllReadyL.calm (o := ⟨some 8, Op.alloc 30, _, _, _, _⟩) rfl (fun K hK => ?_) RegL.AllReadyL.nil
            go_simp
            have hb := (Below.refl w_134.heap.size w_134).alloc (Nat.le_refl _) (.cells #[.int .u64 0, .int .i64 0, .int .i64 0, .pointer none] MT)
            have hB := blk_new w_134 (.cells #[.int .u64 0, .int .i64 0, .int .i64 0, .pointer none] MT)
            have hz : (w_134.alloc (.cells #[.int .u64 0, .int .i64 0, .int .i64 0, .pointer none] MT)).heap.size = w_134.heap.size + 1 := by simp
            obtain ⟨h2, hh⟩ : ∃ h, h = w_134.heap.size := ⟨_, rfl⟩
            have Xh2_1345 := Lib.hid hh
            rw [← hh] at hB ⊢
            clear hh
            generalize w_134.alloc (.cells #[.int .u64 0, .int .i64 0, .int .i64 0, .pointer none] MT) = w_1345 at hb hB hz ⊢
            have HE_1345 := Lib.hid hb; have Bh2_1345 := Lib.hid hB; have Y_1345 := Lib.hid hz
            clear hb hB hz
            have Z_1345 := Lib.hid HE_1345.out.size
            have HV_1345 := Lib.hid (below_trans HV_134.out HE_1345.out)
            have Bh1_1345 := Lib.hid (blk_below Bh1_134.out HE_1345.out)
            (try dsimp only)
            refine hK.out _ _ (⟨cell_below hS0xxx.1 HE_1345.out, cell_below hS0xxx.2 HE_1345.out⟩) (fun hS0xxxx => ?_)
            clear hK K
            try simp only [Act.put, List.setIfInBounds_toArray, List.set_cons_zero, List.set_cons_succ]
            refine RegL.wpAnyL_ready (rs := [6]) (by kernel_rfl) (by simp) ?_
            refine RegL.AllReadyL.late (o := ⟨none, Op.store 30 (Operand.tmp 7) (Operand.tmp 33), _, _, _, _⟩) rfl (by kernel_rfl) (fun K hK => ?_) RegL.AllReadyL.nil
            have hne : h1 ≠ h2 := by have z0 := Z_.out; have z_1 := Z_1.out; have z_13 := Z_13.out; have z_134 := Z_134.out; have y_134 := Y_134.out; have x_134 := Xh1_134.out; have z_1345 := Z_1345.out; have y_1345 := Y_1345.out; have x_1345 := Xh2_1345.out; omega
            have hs1 : V.heap.size ≤ h1 := by have z0 := Z_.out; have z_1 := Z_1.out; have z_13 := Z_13.out; have z_134 := Z_134.out; have y_134 := Y_134.out; have x_134 := Xh1_134.out; have z_1345 := Z_1345.out; have y_1345 := Y_1345.out; have x_1345 := Xh2_1345.out; omega
            have hs2 : V.heap.size ≤ h2 := by have z0 := Z_.out; have z_1 := Z_1.out; have z_13 := Z_13.out; have z_134 := Z_134.out; have y_134 := Y_134.out; have x_134 := Xh1_134.out; have z_1345 := Z_1345.out; have y_1345 := Y_1345.out; have x_1345 := Xh2_1345.out; omega
            have HP := Lib.hid (p3_of Bh1_1345.out Bh2_1345.out hne hs1 hs2 HV_1345.out y b 0 none y b 0 none)
            have hne2 : h2 ≠ h1 := fun h => hne h.symm
            obtain ⟨⟨e0, e1, e2, e3⟩, f0, f1, f2, f3⟩ := box4 Bh1_1345.out
            obtain ⟨⟨r0, r1, r2, r3⟩, s0, s1, s2, s3⟩ := box4 (put4_far Bh2_1345.out hne2 (.int .u64 y) (.int .i64 b) (.int .i64 0) (.pointer none))
            go_simp
            refine hK.out _ _ ?_
            clear hK K
            try simp only [Act.put, List.setIfInBounds_toArray, List.set_cons_zero, List.set_cons_succ]
            refine RegL.wpAnyL_ready (rs := [7]) (by kernel_rfl) (by simp) ?_
            refine RegL.AllReadyL.late (o := ⟨none, Op.store 30 (Operand.tmp 8) (Operand.tmp 35), _, _, _, _⟩) rfl (by kernel_rfl) (fun K hK => ?_) RegL.AllReadyL.nil
            go_simp
            refine hK.out _ _ ?_
            clear hK K
            try simp only [Act.put, List.setIfInBounds_toArray, List.set_cons_zero, List.set_cons_succ]
            refine RegL.wpAnyL_done (by kernel_rfl) ?_ _
            refine NoPanic.normal ?_
            (go_wp2_with fail)
            go_meet
            exact ⟨_, _, rfl, rfl, HP⟩
          refine RegL.AllReadyL.calm (o := ⟨some 8, Op.alloc 30, _, _, _, _⟩) rfl (fun K hK => ?_) RegL.AllReadyL.nil
          go_simp
          have hb := (Below.refl w_13.heap.size w_13).alloc (Nat.le_refl _) (.cells #[.int .u64 0, .int .i64 0, .int .i64 0, .pointer none] MT)
          have hB := blk_new w_13 (.cells #[.int .u64 0, .int .i64 0, .int .i64 0, .pointer none] MT)
          have hz : (w_13.alloc (.cells #[.int .u64 0, .int .i64 0, .int .i64 0, .pointer none] MT)).heap.size = w_13.heap.size + 1 := by simp
          obtain ⟨h2, hh⟩ : ∃ h, h = w_13.heap.size := ⟨_, rfl⟩
          have Xh2_135 := Lib.hid hh
          rw [← hh] at hB ⊢
          clear hh
          generalize w_13.alloc (.cells #[.int .u64 0, .int .i64 0, .int .i64 0, .pointer none] MT) = w_135 at hb hB hz ⊢
          have HE_135 := Lib.hid hb; have Bh2_135 := Lib.hid hB; have Y_135 := Lib.hid hz
          clear hb hB hz
          have Z_135 := Lib.hid HE_135.out.size
          have HV_135 := Lib.hid (below_trans HV_13.out HE_135.out)
          (try dsimp only)
          refine hK.out _ _ (⟨cell_below hS0xx.1 HE_135.out, cell_below hS0xx.2 HE_135.out⟩) (fun hS0xxx => ?_)
          clear hK K
          try simp only [Act.put, List.setIfInBounds_toArray, List.set_cons_zero, List.set_cons_succ]
          refine RegL.wpAnyL_ready (rs := [4]) (by kernel_rfl) (by simp) ?_
          refine RegL.AllReadyL.calm (o := ⟨some 7, Op.alloc 30, _, _, _, _⟩) rfl (fun K hK => ?_) RegL.AllReadyL.nil
          go_simp
          have hb := (Below.refl w_135.heap.size w_135).alloc (Nat.le_refl _) (.cells #[.int .u64 0, .int .i64 0, .int .i64 0, .pointer none] MT)
          have hB := blk_new w_135 (.cells #[.int .u64 0, .int .i64 0, .int .i64 0, .pointer none] MT)
          have hz : (w_135.alloc (.cells #[.int .u64 0, .int .i64 0, .int .i64 0, .pointer none] MT)).heap.size = w_135.heap.size + 1 := by simp
          obtain ⟨h1, hh⟩ : ∃ h, h = w_135.heap.size := ⟨_, rfl⟩
          have Xh1_1354 := Lib.hid hh
          rw [← hh] at hB ⊢
          clear hh
          generalize w_135.alloc (.cells #[.int .u64 0, .int .i64 0, .int .i64 0, .pointer none] MT) = w_1354 at hb hB hz ⊢
          have HE_1354 := Lib.hid hb; have Bh1_1354 := Lib.hid hB; have Y_1354 := Lib.hid hz
          clear hb hB hz
          have Z_1354 := Lib.hid HE_1354.out.size
          have HV_1354 := Lib.hid (below_trans HV_135.out HE_1354.out)
          have Bh2_1354 := Lib.hid (blk_below Bh2_135.out HE_1354.out)
          (try dsimp only)
          refine hK.out _ _ (⟨cell_below hS0xxx.1 HE_1354.out, cell_below hS0xxx.2 HE_1354.out⟩) (fun hS0xxxx => ?_)
          clear hK K
          try simp only [Act.put, List.setIfInBounds_toArray, List.set_cons_zero, List.set_cons_succ]
          refine RegL.wpAnyL_ready (rs := [6]) (by kernel_rfl) (by simp) ?_
          refine RegL.AllReadyL.late (o := ⟨none, Op.store 30 (Operand.tmp 7) (Operand.tmp 33), _, _, _, _⟩) rfl (by kernel_rfl) (fun K hK => ?_) RegL.AllReadyL.nil
          have hne : h1 ≠ h2 := by have z0 := Z_.out; have z_1 := Z_1.out; have z_13 := Z_13.out; have z_135 := Z_135.out; have y_135 := Y_135.out; have x_135 := Xh2_135.out; have z_1354 := Z_1354.out; have y_1354 := Y_1354.out; have x_1354 := Xh1_1354.out; omega
          have hs1 : V.heap.size ≤ h1 := by have z0 := Z_.out; have z_1 := Z_1.out; have z_13 := Z_13.out; have z_135 := Z_135.out; have y_135 := Y_135.out; have x_135 := Xh2_135.out; have z_1354 := Z_1354.out; have y_1354 := Y_1354.out; have x_1354 := Xh1_1354.out; omega
          have hs2 : V.heap.size ≤ h2 := by have z0 := Z_.out; have z_1 := Z_1.out; have z_13 := Z_13.out; have z_135 := Z_135.out; have y_135 := Y_135.out; have x_135 := Xh2_135.out; have z_1354 := Z_1354.out; have y_1354 := Y_1354.out; have x_1354 := Xh1_1354.out; omega
          have HP := Lib.hid (p3_of Bh1_1354.out Bh2_1354.out hne hs1 hs2 HV_1354.out y b 0 none y b 0 none)
          have hne2 : h2 ≠ h1 := fun h => hne h.symm
          obtain ⟨⟨e0, e1, e2, e3⟩, f0, f1, f2, f3⟩ := box4 Bh1_1354.out
          obtain ⟨⟨r0, r1, r2, r3⟩, s0, s1, s2, s3⟩ := box4 (put4_far Bh2_1354.out hne2 (.int .u64 y) (.int .i64 b) (.int .i64 0) (.pointer none))
          go_simp
          refine hK.out _ _ ?_
          clear hK K
          try simp only [Act.put, List.setIfInBounds_toArray, List.set_cons_zero, List.set_cons_succ]
          refine RegL.wpAnyL_ready (rs := [7]) (by kernel_rfl) (by simp) ?_
          refine RegL.AllReadyL.late (o := ⟨none, Op.store 30 (Operand.tmp 8) (Operand.tmp 35), _, _, _, _⟩) rfl (by kernel_rfl) (fun K hK => ?_) RegL.AllReadyL.nil
          go_simp
          refine hK.out _ _ ?_
          clear hK K
          try simp only [Act.put, List.setIfInBounds_toArray, List.set_cons_zero, List.set_cons_succ]
          refine RegL.wpAnyL_done (by kernel_rfl) ?_ _
          refine NoPanic.normal ?_
          (go_wp2_with fail)
          go_meet
          exact ⟨_, _, rfl, rfl, HP⟩
        refine RegL.AllReadyL.calm (o := ⟨some 7, Op.alloc 30, _, _, _, _⟩) rfl (fun K hK => ?_) ?_
        · go_simp
          have hb := (Below.refl w_1.heap.size w_1).alloc (Nat.le_refl _) (.cells #[.int .u64 0, .int .i64 0, .int .i64 0, .pointer none] MT)
          have hB := blk_new w_1 (.cells #[.int .u64 0, .int .i64 0, .int .i64 0, .pointer none] MT)
          have hz : (w_1.alloc (.cells #[.int .u64 0, .int .i64 0, .int .i64 0, .pointer none] MT)).heap.size = w_1.heap.size + 1 := by simp
          obtain ⟨h1, hh⟩ : ∃ h, h = w_1.heap.size := ⟨_, rfl⟩
          have Xh1_14 := Lib.hid hh
          rw [← hh] at hB ⊢
          clear hh
          generalize w_1.alloc (.cells #[.int .u64 0, .int .i64 0, .int .i64 0, .pointer none] MT) = w_14 at hb hB hz ⊢
          have HE_14 := Lib.hid hb; have Bh1_14 := Lib.hid hB; have Y_14 := Lib.hid hz
          clear hb hB hz
          have Z_14 := Lib.hid HE_14.out.size
          have HV_14 := Lib.hid (below_trans HV_1.out HE_14.out)
          (try dsimp only)
          refine hK.out _ _ (⟨cell_below hS0x.1 HE_14.out, cell_below hS0x.2 HE_14.out⟩) (fun hS0xx => ?_)
          clear hK K
          try simp only [Act.put, List.setIfInBounds_toArray, List.set_cons_zero, List.set_cons_succ]
          refine RegL.wpAnyL_ready (rs := [3, 5]) (by kernel_rfl) (by simp) ?_
          refine RegL.AllReadyL.calm (o := ⟨some 35, Op.call { callee := Callee.value (Operand.func 19), args := #[Operand.tmp 34], argTypes := #[24] }, _, _, _, _⟩) rfl (fun K hK => ?_) ?_
          · go_simp
            refine (HNA.out _).mono ?_
            rintro e w_143 ⟨v, rfl, rfl, hb⟩
            have HE_143 := Lib.hid hb
            clear hb
            have Z_143 := Lib.hid HE_143.out.size
            have HV_143 := Lib.hid (below_trans HV_14.out HE_143.out)
            have Bh1_143 := Lib.hid (blk_below Bh1_14.out HE_143.out)
            (try dsimp only)
            refine hK.out _ _ (⟨cell_below hS0xx.1 HE_143.out, cell_below hS0xx.2 HE_143.out⟩) (fun hS0xxx => ?_)
            clear hK K
            try simp only [Act.put, List.setIfInBounds_toArray, List.set_cons_zero, List.set_cons_succ]
            refine RegL.wpAnyL_ready (rs := [5]) (by kernel_rfl) (by simp) ?_
            refine RegL.AllReadyL.calm (o := ⟨some 8, Op.alloc 30, _, _, _, _⟩) rfl (fun K hK => ?_) RegL.AllReadyL.nil
            go_simp
            have hb := (Below.refl w_143.heap.size w_143).alloc (Nat.le_refl _) (.cells #[.int .u64 0, .int .i64 0, .int .i64 0, .pointer none] MT)
            have hB := blk_new w_143 (.cells #[.int .u64 0, .int .i64 0, .int .i64 0, .pointer none] MT)
            have hz : (w_143.alloc (.cells #[.int .u64 0, .int .i64 0, .int .i64 0, .pointer none] MT)).heap.size = w_143.heap.size + 1 := by simp
            obtain ⟨h2, hh⟩ : ∃ h, h = w_143.heap.size := ⟨_, rfl⟩
            have Xh2_1435 := Lib.hid hh
            rw [← hh] at hB ⊢
            clear hh
            generalize w_143.alloc (.cells #[.int .u64 0, .int .i64 0, .int .i64 0, .pointer none] MT) = w_1435 at hb hB hz ⊢
            have HE_1435 := Lib.hid hb; have Bh2_1435 := Lib.hid hB; have Y_1435 := Lib.hid hz
            clear hb hB hz
            have Z_1435 := Lib.hid HE_1435.out.size
            have HV_1435 := Lib.hid (below_trans HV_143.out HE_1435.out)
            have Bh1_1435 := Lib.hid (blk_below Bh1_143.out HE_1435.out)
            (try dsimp only)
            refine hK.out _ _ (⟨cell_below hS0xxx.1 HE_1435.out, cell_below hS0xxx.2 HE_1435.out⟩) (fun hS0xxxx => ?_)
            clear hK K
            try simp only [Act.put, List.setIfInBounds_toArray, List.set_cons_zero, List.set_cons_succ]
            refine RegL.wpAnyL_ready (rs := [6]) (by kernel_rfl) (by simp) ?_
            refine RegL.AllReadyL.late (o := ⟨none, Op.store 30 (Operand.tmp 7) (Operand.tmp 33), _, _, _, _⟩) rfl (by kernel_rfl) (fun K hK => ?_) RegL.AllReadyL.nil
            have hne : h1 ≠ h2 := by have z0 := Z_.out; have z_1 := Z_1.out; have z_14 := Z_14.out; have y_14 := Y_14.out; have x_14 := Xh1_14.out; have z_143 := Z_143.out; have z_1435 := Z_1435.out; have y_1435 := Y_1435.out; have x_1435 := Xh2_1435.out; omega
            have hs1 : V.heap.size ≤ h1 := by have z0 := Z_.out; have z_1 := Z_1.out; have z_14 := Z_14.out; have y_14 := Y_14.out; have x_14 := Xh1_14.out; have z_143 := Z_143.out; have z_1435 := Z_1435.out; have y_1435 := Y_1435.out; have x_1435 := Xh2_1435.out; omega
            have hs2 : V.heap.size ≤ h2 := by have z0 := Z_.out; have z_1 := Z_1.out; have z_14 := Z_14.out; have y_14 := Y_14.out; have x_14 := Xh1_14.out; have z_143 := Z_143.out; have z_1435 := Z_1435.out; have y_1435 := Y_1435.out; have x_1435 := Xh2_1435.out; omega
            have HP := Lib.hid (p3_of Bh1_1435.out Bh2_1435.out hne hs1 hs2 HV_1435.out y b 0 none y b 0 none)
            have hne2 : h2 ≠ h1 := fun h => hne h.symm
            obtain ⟨⟨e0, e1, e2, e3⟩, f0, f1, f2, f3⟩ := box4 Bh1_1435.out
            obtain ⟨⟨r0, r1, r2, r3⟩, s0, s1, s2, s3⟩ := box4 (put4_far Bh2_1435.out hne2 (.int .u64 y) (.int .i64 b) (.int .i64 0) (.pointer none))
            go_simp
            refine hK.out _ _ ?_
            clear hK K
            try simp only [Act.put, List.setIfInBounds_toArray, List.set_cons_zero, List.set_cons_succ]
            refine RegL.wpAnyL_ready (rs := [7]) (by kernel_rfl) (by simp) ?_
            refine RegL.AllReadyL.late (o := ⟨none, Op.store 30 (Operand.tmp 8) (Operand.tmp 35), _, _, _, _⟩) rfl (by kernel_rfl) (fun K hK => ?_) RegL.AllReadyL.nil
            go_simp
            refine hK.out _ _ ?_
            clear hK K
            try simp only [Act.put, List.setIfInBounds_toArray, List.set_cons_zero, List.set_cons_succ]
            refine RegL.wpAnyL_done (by kernel_rfl) ?_ _
            refine NoPanic.normal ?_
            (go_wp2_with fail)
            go_meet
            exact ⟨_, _, rfl, rfl, HP⟩
          refine RegL.AllReadyL.calm (o := ⟨some 8, Op.alloc 30, _, _, _, _⟩) rfl (fun K hK => ?_) RegL.AllReadyL.nil
          go_simp
          have hb := (Below.refl w_14.heap.size w_14).alloc (Nat.le_refl _) (.cells #[.int .u64 0, .int .i64 0, .int .i64 0, .pointer none] MT)
          have hB := blk_new w_14 (.cells #[.int .u64 0, .int .i64 0, .int .i64 0, .pointer none] MT)
          have hz : (w_14.alloc (.cells #[.int .u64 0, .int .i64 0, .int .i64 0, .pointer none] MT)).heap.size = w_14.heap.size + 1 := by simp
          obtain ⟨h2, hh⟩ : ∃ h, h = w_14.heap.size := ⟨_, rfl⟩
          have Xh2_145 := Lib.hid hh
          rw [← hh] at hB ⊢
          clear hh
          generalize w_14.alloc (.cells #[.int .u64 0, .int .i64 0, .int .i64 0, .pointer none] MT) = w_145 at hb hB hz ⊢
          have HE_145 := Lib.hid hb; have Bh2_145 := Lib.hid hB; have Y_145 := Lib.hid hz
          clear hb hB hz
          have Z_145 := Lib.hid HE_145.out.size
          have HV_145 := Lib.hid (below_trans HV_14.out HE_145.out)
          have Bh1_145 := Lib.hid (blk_below Bh1_14.out HE_145.out)
          (try dsimp only)
          refine hK.out _ _ (⟨cell_below hS0xx.1 HE_145.out, cell_below hS0xx.2 HE_145.out⟩) (fun hS0xxx => ?_)
          clear hK K
          try simp only [Act.put, List.setIfInBounds_toArray, List.set_cons_zero, List.set_cons_succ]
          refine RegL.wpAnyL_ready (rs := [3]) (by kernel_rfl) (by simp) ?_
          refine RegL.AllReadyL.calm (o := ⟨some 35, Op.call { callee := Callee.value (Operand.func 19), args := #[Operand.tmp 34], argTypes := #[24] }, _, _, _, _⟩) rfl (fun K hK => ?_) RegL.AllReadyL.nil
          go_simp
          refine (HNA.out _).mono ?_
          rintro e w_1453 ⟨v, rfl, rfl, hb⟩
          have HE_1453 := Lib.hid hb
          clear hb
          have Z_1453 := Lib.hid HE_1453.out.size
          have HV_1453 := Lib.hid (below_trans HV_145.out HE_1453.out)
          have Bh1_1453 := Lib.hid (blk_below Bh1_145.out HE_1453.out)
          have Bh2_1453 := Lib.hid (blk_below Bh2_145.out HE_1453.out)
          (try dsimp only)
          refine hK.out _ _ (⟨cell_below hS0xxx.1 HE_1453.out, cell_below hS0xxx.2 HE_1453.out⟩) (fun hS0xxxx => ?_)
          clear hK K
          try simp only [Act.put, List.setIfInBounds_toArray, List.set_cons_zero, List.set_cons_succ]
          refine RegL.wpAnyL_ready (rs := [6]) (by kernel_rfl) (by simp) ?_
          refine RegL.AllReadyL.late (o := ⟨none, Op.store 30 (Operand.tmp 7) (Operand.tmp 33), _, _, _, _⟩) rfl (by kernel_rfl) (fun K hK => ?_) RegL.AllReadyL.nil
          have hne : h1 ≠ h2 := by have z0 := Z_.out; have z_1 := Z_1.out; have z_14 := Z_14.out; have y_14 := Y_14.out; have x_14 := Xh1_14.out; have z_145 := Z_145.out; have y_145 := Y_145.out; have x_145 := Xh2_145.out; have z_1453 := Z_1453.out; omega
          have hs1 : V.heap.size ≤ h1 := by have z0 := Z_.out; have z_1 := Z_1.out; have z_14 := Z_14.out; have y_14 := Y_14.out; have x_14 := Xh1_14.out; have z_145 := Z_145.out; have y_145 := Y_145.out; have x_145 := Xh2_145.out; have z_1453 := Z_1453.out; omega
          have hs2 : V.heap.size ≤ h2 := by have z0 := Z_.out; have z_1 := Z_1.out; have z_14 := Z_14.out; have y_14 := Y_14.out; have x_14 := Xh1_14.out; have z_145 := Z_145.out; have y_145 := Y_145.out; have x_145 := Xh2_145.out; have z_1453 := Z_1453.out; omega
          have HP := Lib.hid (p3_of Bh1_1453.out Bh2_1453.out hne hs1 hs2 HV_1453.out y b 0 none y b 0 none)
          have hne2 : h2 ≠ h1 := fun h => hne h.symm
          obtain ⟨⟨e0, e1, e2, e3⟩, f0, f1, f2, f3⟩ := box4 Bh1_1453.out
          obtain ⟨⟨r0, r1, r2, r3⟩, s0, s1, s2, s3⟩ := box4 (put4_far Bh2_1453.out hne2 (.int .u64 y) (.int .i64 b) (.int .i64 0) (.pointer none))
          go_simp
          refine hK.out _ _ ?_
          clear hK K
          try simp only [Act.put, List.setIfInBounds_toArray, List.set_cons_zero, List.set_cons_succ]
          refine RegL.wpAnyL_ready (rs := [7]) (by kernel_rfl) (by simp) ?_
          refine RegL.AllReadyL.late (o := ⟨none, Op.store 30 (Operand.tmp 8) (Operand.tmp 35), _, _, _, _⟩) rfl (by kernel_rfl) (fun K hK => ?_) RegL.AllReadyL.nil
          go_simp
          refine hK.out _ _ ?_
          clear hK K
          try simp only [Act.put, List.setIfInBounds_toArray, List.set_cons_zero, List.set_cons_succ]
          refine RegL.wpAnyL_done (by kernel_rfl) ?_ _
          refine NoPanic.normal ?_
          (go_wp2_with fail)
          go_meet
          exact ⟨_, _, rfl, rfl, HP⟩
        refine RegL.AllReadyL.calm (o := ⟨some 8, Op.alloc 30, _, _, _, _⟩) rfl (fun K hK => ?_) RegL.AllReadyL.nil
        go_simp
        have hb := (Below.refl w_1.heap.size w_1).alloc (Nat.le_refl _) (.cells #[.int .u64 0, .int .i64 0, .int .i64 0, .pointer none] MT)
        have hB := blk_new w_1 (.cells #[.int .u64 0, .int .i64 0, .int .i64 0, .pointer none] MT)
        have hz : (w_1.alloc (.cells #[.int .u64 0, .int .i64 0, .int .i64 0, .pointer none] MT)).heap.size = w_1.heap.size + 1 := by simp
        obtain ⟨h2, hh⟩ : ∃ h, h = w_1.heap.size := ⟨_, rfl⟩
        have Xh2_15 := Lib.hid hh
        rw [← hh] at hB ⊢
        clear hh
        generalize w_1.alloc (.cells #[.int .u64 0, .int .i64 0, .int .i64 0, .pointer none] MT) = w_15 at hb hB hz ⊢
        have HE_15 := Lib.hid hb; have Bh2_15 := Lib.hid hB; have Y_15 := Lib.hid hz
        clear hb hB hz
        have Z_15 := Lib.hid HE_15.out.size
        have HV_15 := Lib.hid (below_trans HV_1.out HE_15.out)
        (try dsimp only)
        refine hK.out _ _ (⟨cell_below hS0x.1 HE_15.out, cell_below hS0x.2 HE_15.out⟩) (fun hS0xx => ?_)
        clear hK K
        try simp only [Act.put, List.setIfInBounds_toArray, List.set_cons_zero, List.set_cons_succ]
        refine RegL.wpAnyL_ready (rs := [3, 4]) (by kernel_rfl) (by simp) ?_
        refine RegL.AllReadyL.calm (o := ⟨some 35, Op.call { callee := Callee.value (Operand.func 19), args := #[Operand.tmp 34], argTypes := #[24] }, _, _, _, _⟩) rfl (fun K hK => ?_) ?_
        · go_simp
          refine (HNA.out _).mono ?_
          rintro e w_153 ⟨v, rfl, rfl, hb⟩
          have HE_153 := Lib.hid hb
          clear hb
          have Z_153 := Lib.hid HE_153.out.size
          have HV_153 := Lib.hid (below_trans HV_15.out HE_153.out)
          have Bh2_153 := Lib.hid (blk_below Bh2_15.out HE_153.out)
          (try dsimp only)
          refine hK.out _ _ (⟨cell_below hS0xx.1 HE_153.out, cell_below hS0xx.2 HE_153.out⟩) (fun hS0xxx => ?_)
          clear hK K
          try simp only [Act.put, List.setIfInBounds_toArray, List.set_cons_zero, List.set_cons_succ]
          refine RegL.wpAnyL_ready (rs := [4]) (by kernel_rfl) (by simp) ?_
          refine RegL.AllReadyL.calm (o := ⟨some 7, Op.alloc 30, _, _, _, _⟩) rfl (fun K hK => ?_) RegL.AllReadyL.nil
          go_simp
          have hb := (Below.refl w_153.heap.size w_153).alloc (Nat.le_refl _) (.cells #[.int .u64 0, .int .i64 0, .int .i64 0, .pointer none] MT)
          have hB := blk_new w_153 (.cells #[.int .u64 0, .int .i64 0, .int .i64 0, .pointer none] MT)
          have hz : (w_153.alloc (.cells #[.int .u64 0, .int .i64 0, .int .i64 0, .pointer none] MT)).heap.size = w_153.heap.size + 1 := by simp
          obtain ⟨h1, hh⟩ : ∃ h, h = w_153.heap.size := ⟨_, rfl⟩
          have Xh1_1534 := Lib.hid hh
          rw [← hh] at hB ⊢
          clear hh
          generalize w_153.alloc (.cells #[.int .u64 0, .int .i64 0, .int .i64 0, .pointer none] MT) = w_1534 at hb hB hz ⊢
          have HE_1534 := Lib.hid hb; have Bh1_1534 := Lib.hid hB; have Y_1534 := Lib.hid hz
          clear hb hB hz
          have Z_1534 := Lib.hid HE_1534.out.size
          have HV_1534 := Lib.hid (below_trans HV_153.out HE_1534.out)
          have Bh2_1534 := Lib.hid (blk_below Bh2_153.out HE_1534.out)
          (try dsimp only)
          refine hK.out _ _ (⟨cell_below hS0xxx.1 HE_1534.out, cell_below hS0xxx.2 HE_1534.out⟩) (fun hS0xxxx => ?_)
          clear hK K
          try simp only [Act.put, List.setIfInBounds_toArray, List.set_cons_zero, List.set_cons_succ]
          refine RegL.wpAnyL_ready (rs := [6]) (by kernel_rfl) (by simp) ?_
          refine RegL.AllReadyL.late (o := ⟨none, Op.store 30 (Operand.tmp 7) (Operand.tmp 33), _, _, _, _⟩) rfl (by kernel_rfl) (fun K hK => ?_) RegL.AllReadyL.nil
          have hne : h1 ≠ h2 := by have z0 := Z_.out; have z_1 := Z_1.out; have z_15 := Z_15.out; have y_15 := Y_15.out; have x_15 := Xh2_15.out; have z_153 := Z_153.out; have z_1534 := Z_1534.out; have y_1534 := Y_1534.out; have x_1534 := Xh1_1534.out; omega
          have hs1 : V.heap.size ≤ h1 := by have z0 := Z_.out; have z_1 := Z_1.out; have z_15 := Z_15.out; have y_15 := Y_15.out; have x_15 := Xh2_15.out; have z_153 := Z_153.out; have z_1534 := Z_1534.out; have y_1534 := Y_1534.out; have x_1534 := Xh1_1534.out; omega
          have hs2 : V.heap.size ≤ h2 := by have z0 := Z_.out; have z_1 := Z_1.out; have z_15 := Z_15.out; have y_15 := Y_15.out; have x_15 := Xh2_15.out; have z_153 := Z_153.out; have z_1534 := Z_1534.out; have y_1534 := Y_1534.out; have x_1534 := Xh1_1534.out; omega
          have HP := Lib.hid (p3_of Bh1_1534.out Bh2_1534.out hne hs1 hs2 HV_1534.out y b 0 none y b 0 none)
          have hne2 : h2 ≠ h1 := fun h => hne h.symm
          obtain ⟨⟨e0, e1, e2, e3⟩, f0, f1, f2, f3⟩ := box4 Bh1_1534.out
          obtain ⟨⟨r0, r1, r2, r3⟩, s0, s1, s2, s3⟩ := box4 (put4_far Bh2_1534.out hne2 (.int .u64 y) (.int .i64 b) (.int .i64 0) (.pointer none))
          go_simp
          refine hK.out _ _ ?_
          clear hK K
          try simp only [Act.put, List.setIfInBounds_toArray, List.set_cons_zero, List.set_cons_succ]
          refine RegL.wpAnyL_ready (rs := [7]) (by kernel_rfl) (by simp) ?_
          refine RegL.AllReadyL.late (o := ⟨none, Op.store 30 (Operand.tmp 8) (Operand.tmp 35), _, _, _, _⟩) rfl (by kernel_rfl) (fun K hK => ?_) RegL.AllReadyL.nil
          go_simp
          refine hK.out _ _ ?_
          clear hK K
          try simp only [Act.put, List.setIfInBounds_toArray, List.set_cons_zero, List.set_cons_succ]
          refine RegL.wpAnyL_done (by kernel_rfl) ?_ _
          refine NoPanic.normal ?_
          (go_wp2_with fail)
          go_meet
          exact ⟨_, _, rfl, rfl, HP⟩
        refine RegL.AllReadyL.calm (o := ⟨some 7, Op.alloc 30, _, _, _, _⟩) rfl (fun K hK => ?_) RegL.AllReadyL.nil
        go_simp
        have hb := (Below.refl w_15.heap.size w_15).alloc (Nat.le_refl _) (.cells #[.int .u64 0, .int .i64 0, .int .i64 0, .pointer none] MT)
        have hB := blk_new w_15 (.cells #[.int .u64 0, .int .i64 0, .int .i64 0, .pointer none] MT)
        have hz : (w_15.alloc (.cells #[.int .u64 0, .int .i64 0, .int .i64 0, .pointer none] MT)).heap.size = w_15.heap.size + 1 := by simp
        obtain ⟨h1, hh⟩ : ∃ h, h = w_15.heap.size := ⟨_, rfl⟩
        have Xh1_154 := Lib.hid hh
        rw [← hh] at hB ⊢
        clear hh
        generalize w_15.alloc (.cells #[.int .u64 0, .int .i64 0, .int .i64 0, .pointer none] MT) = w_154 at hb hB hz ⊢
        have HE_154 := Lib.hid hb; have Bh1_154 := Lib.hid hB; have Y_154 := Lib.hid hz
        clear hb hB hz
        have Z_154 := Lib.hid HE_154.out.size
        have HV_154 := Lib.hid (below_trans HV_15.out HE_154.out)
        have Bh2_154 := Lib.hid (blk_below Bh2_15.out HE_154.out)
        (try dsimp only)
        refine hK.out _ _ (⟨cell_below hS0xx.1 HE_154.out, cell_below hS0xx.2 HE_154.out⟩) (fun hS0xxx => ?_)
        clear hK K
        try simp only [Act.put, List.setIfInBounds_toArray, List.set_cons_zero, List.set_cons_succ]
        refine RegL.wpAnyL_ready (rs := [3]) (by kernel_rfl) (by simp) ?_
        refine RegL.AllReadyL.calm (o := ⟨some 35, Op.call { callee := Callee.value (Operand.func 19), args := #[Operand.tmp 34], argTypes := #[24] }, _, _, _, _⟩) rfl (fun K hK => ?_) RegL.AllReadyL.nil
        go_simp
        refine (HNA.out _).mono ?_
        rintro e w_1543 ⟨v, rfl, rfl, hb⟩
        have HE_1543 := Lib.hid hb
        clear hb
        have Z_1543 := Lib.hid HE_1543.out.size
        have HV_1543 := Lib.hid (below_trans HV_154.out HE_1543.out)
        have Bh2_1543 := Lib.hid (blk_below Bh2_154.out HE_1543.out)
        have Bh1_1543 := Lib.hid (blk_below Bh1_154.out HE_1543.out)
        (try dsimp only)
        refine hK.out _ _ (⟨cell_below hS0xxx.1 HE_1543.out, cell_below hS0xxx.2 HE_1543.out⟩) (fun hS0xxxx => ?_)
        clear hK K
        try simp only [Act.put, List.setIfInBounds_toArray, List.set_cons_zero, List.set_cons_succ]
        refine RegL.wpAnyL_ready (rs := [6]) (by kernel_rfl) (by simp) ?_
        refine RegL.AllReadyL.late (o := ⟨none, Op.store 30 (Operand.tmp 7) (Operand.tmp 33), _, _, _, _⟩) rfl (by kernel_rfl) (fun K hK => ?_) RegL.AllReadyL.nil
        have hne : h1 ≠ h2 := by have z0 := Z_.out; have z_1 := Z_1.out; have z_15 := Z_15.out; have y_15 := Y_15.out; have x_15 := Xh2_15.out; have z_154 := Z_154.out; have y_154 := Y_154.out; have x_154 := Xh1_154.out; have z_1543 := Z_1543.out; omega
        have hs1 : V.heap.size ≤ h1 := by have z0 := Z_.out; have z_1 := Z_1.out; have z_15 := Z_15.out; have y_15 := Y_15.out; have x_15 := Xh2_15.out; have z_154 := Z_154.out; have y_154 := Y_154.out; have x_154 := Xh1_154.out; have z_1543 := Z_1543.out; omega
        have hs2 : V.heap.size ≤ h2 := by have z0 := Z_.out; have z_1 := Z_1.out; have z_15 := Z_15.out; have y_15 := Y_15.out; have x_15 := Xh2_15.out; have z_154 := Z_154.out; have y_154 := Y_154.out; have x_154 := Xh1_154.out; have z_1543 := Z_1543.out; omega
        have HP := Lib.hid (p3_of Bh1_1543.out Bh2_1543.out hne hs1 hs2 HV_1543.out y b 0 none y b 0 none)
        have hne2 : h2 ≠ h1 := fun h => hne h.symm
        obtain ⟨⟨e0, e1, e2, e3⟩, f0, f1, f2, f3⟩ := box4 Bh1_1543.out
        obtain ⟨⟨r0, r1, r2, r3⟩, s0, s1, s2, s3⟩ := box4 (put4_far Bh2_1543.out hne2 (.int .u64 y) (.int .i64 b) (.int .i64 0) (.pointer none))
        go_simp
        refine hK.out _ _ ?_
        clear hK K
        try simp only [Act.put, List.setIfInBounds_toArray, List.set_cons_zero, List.set_cons_succ]
        refine RegL.wpAnyL_ready (rs := [7]) (by kernel_rfl) (by simp) ?_
        refine RegL.AllReadyL.late (o := ⟨none, Op.store 30 (Operand.tmp 8) (Operand.tmp 35), _, _, _, _⟩) rfl (by kernel_rfl) (fun K hK => ?_) RegL.AllReadyL.nil
        go_simp
        refine hK.out _ _ ?_
        clear hK K
        try simp only [Act.put, List.setIfInBounds_toArray, List.set_cons_zero, List.set_cons_succ]
        refine RegL.wpAnyL_done (by kernel_rfl) ?_ _
        refine NoPanic.normal ?_
        (go_wp2_with fail)
        go_meet
        exact ⟨_, _, rfl, rfl, HP⟩
      refine RegL.AllReadyL.calm (o := ⟨some 7, Op.alloc 30, _, _, _, _⟩) rfl (fun K hK => ?_) ?_
      · go_simp
        have hb := (Below.refl V0.heap.size V0).alloc (Nat.le_refl _) (.cells #[.int .u64 0, .int .i64 0, .int .i64 0, .pointer none] MT)
        have hB := blk_new V0 (.cells #[.int .u64 0, .int .i64 0, .int .i64 0, .pointer none] MT)
        have hz : (V0.alloc (.cells #[.int .u64 0, .int .i64 0, .int .i64 0, .pointer none] MT)).heap.size = V0.heap.size + 1 := by simp
        obtain ⟨h1, hh⟩ : ∃ h, h = V0.heap.size := ⟨_, rfl⟩
        have Xh1_4 := Lib.hid hh
        rw [← hh] at hB ⊢
        clear hh
        generalize V0.alloc (.cells #[.int .u64 0, .int .i64 0, .int .i64 0, .pointer none] MT) = w_4 at hb hB hz ⊢
        have HE_4 := Lib.hid hb; have Bh1_4 := Lib.hid hB; have Y_4 := Lib.hid hz
        clear hb hB hz
        have Z_4 := Lib.hid HE_4.out.size
        have HV_4 := Lib.hid (below_trans HV_.out HE_4.out)
        (try dsimp only)
        refine hK.out _ _ (⟨cell_below hS0.1 HE_4.out, cell_below hS0.2 HE_4.out⟩) (fun hS0x => ?_)
        clear hK K
        try simp only [Act.put, List.setIfInBounds_toArray, List.set_cons_zero, List.set_cons_succ]
        refine RegL.wpAnyL_ready (rs := [1, 5]) (by kernel_rfl) (by simp) ?_
        refine RegL.AllReadyL.calm (o := ⟨some 33, Op.call { callee := Callee.value (Operand.func 19), args := #[Operand.tmp 32], argTypes := #[24] }, _, _, _, _⟩) rfl (fun K hK => ?_) ?_
        · go_simp
          refine (HNA.out _).mono ?_
          rintro e w_41 ⟨v, rfl, rfl, hb⟩
          have HE_41 := Lib.hid hb
          clear hb
          have Z_41 := Lib.hid HE_41.out.size
          have HV_41 := Lib.hid (below_trans HV_4.out HE_41.out)
          have Bh1_41 := Lib.hid (blk_below Bh1_4.out HE_41.out)
          (try dsimp only)
          refine hK.out _ _ (⟨cell_below hS0x.1 HE_41.out, cell_below hS0x.2 HE_41.out⟩) (fun hS0xx => ?_)
          clear hK K
          try simp only [Act.put, List.setIfInBounds_toArray, List.set_cons_zero, List.set_cons_succ]
          refine RegL.wpAnyL_ready (rs := [3, 5]) (by kernel_rfl) (by simp) ?_
          refine RegL.AllReadyL.calm (o := ⟨some 35, Op.call { callee := Callee.value (Operand.func 19), args := #[Operand.tmp 34], argTypes := #[24] }, _, _, _, _⟩) rfl (fun K hK => ?_) ?_
          · go_simp
            refine (HNA.out _).mono ?_
            rintro e w_413 ⟨v, rfl, rfl, hb⟩
            have HE_413 := Lib.hid hb
            clear hb
            have Z_413 := Lib.hid HE_413.out.size
            have HV_413 := Lib.hid (below_trans HV_41.out HE_413.out)
            have Bh1_413 := Lib.hid (blk_below Bh1_41.out HE_413.out)
            (try dsimp only)
            refine hK.out _ _ (⟨cell_below hS0xx.1 HE_413.out, cell_below hS0xx.2 HE_413.out⟩) (fun hS0xxx => ?_)
            clear hK K
            try simp only [Act.put, List.setIfInBounds_toArray, List.set_cons_zero, List.set_cons_succ]
            refine RegL.wpAnyL_ready (rs := [5]) (by kernel_rfl) (by simp) ?_
            refine RegL.AllReadyL.calm (o := ⟨some 8, Op.alloc 30, _, _, _, _⟩) rfl (fun K hK => ?_) RegL.AllReadyL.nil
            go_simp
            have hb := (Below.refl w_413.heap.size w_413).alloc (Nat.le_refl _) (.cells #[.int .u64 0, .int .i64 0, .int .i64 0, .pointer none] MT)
            have hB := blk_new w_413 (.cells #[.int .u64 0, .int .i64 0, .int .i64 0, .pointer none] MT)
            have hz : (w_413.alloc (.cells #[.int .u64 0, .int .i64 0, .int .i64 0, .pointer none] MT)).heap.size = w_413.heap.size + 1 := by simp
            obtain ⟨h2, hh⟩ : ∃ h, h = w_413.heap.size := ⟨_, rfl⟩
            have Xh2_4135 := Lib.hid hh
            rw [← hh] at hB ⊢
            clear hh
            generalize w_413.alloc (.cells #[.int .u64 0, .int .i64 0, .int .i64 0, .pointer none] MT) = w_4135 at hb hB hz ⊢
            have HE_4135 := Lib.hid hb; have Bh2_4135 := Lib.hid hB; have Y_4135 := Lib.hid hz
            clear hb hB hz
            have Z_4135 := Lib.hid HE_4135.out.size
            have HV_4135 := Lib.hid (below_trans HV_413.out HE_4135.out)
            have Bh1_4135 := Lib.hid (blk_below Bh1_413.out HE_4135.out)
            (try dsimp only)
            refine hK.out _ _ (⟨cell_below hS0xxx.1 HE_4135.out, cell_below hS0xxx.2 HE_4135.out⟩) (fun hS0xxxx => ?_)
            clear hK K
            try simp only [Act.put, List.setIfInBounds_toArray, List.set_cons_zero, List.set_cons_succ]
            refine RegL.wpAnyL_ready (rs := [6]) (by kernel_rfl) (by simp) ?_
            refine RegL.AllReadyL.late (o := ⟨none, Op.store 30 (Operand.tmp 7) (Operand.tmp 33), _, _, _, _⟩) rfl (by kernel_rfl) (fun K hK => ?_) RegL.AllReadyL.nil
            have hne : h1 ≠ h2 := by have z0 := Z_.out; have z_4 := Z_4.out; have y_4 := Y_4.out; have x_4 := Xh1_4.out; have z_41 := Z_41.out; have z_413 := Z_413.out; have z_4135 := Z_4135.out; have y_4135 := Y_4135.out; have x_4135 := Xh2_4135.out; omega
            have hs1 : V.heap.size ≤ h1 := by have z0 := Z_.out; have z_4 := Z_4.out; have y_4 := Y_4.out; have x_4 := Xh1_4.out; have z_41 := Z_41.out; have z_413 := Z_413.out; have z_4135 := Z_4135.out; have y_4135 := Y_4135.out; have x_4135 := Xh2_4135.out; omega
            have hs2 : V.heap.size ≤ h2 := by have z0 := Z_.out; have z_4 := Z_4.out; have y_4 := Y_4.out; have x_4 := Xh1_4.out; have z_41 := Z_41.out; have z_413 := Z_413.out; have z_4135 := Z_4135.out; have y_4135 := Y_4135.out; have x_4135 := Xh2_4135.out; omega
            have HP := Lib.hid (p3_of Bh1_4135.out Bh2_4135.out hne hs1 hs2 HV_4135.out y b 0 none y b 0 none)
            have hne2 : h2 ≠ h1 := fun h => hne h.symm
            obtain ⟨⟨e0, e1, e2, e3⟩, f0, f1, f2, f3⟩ := box4 Bh1_4135.out
            obtain ⟨⟨r0, r1, r2, r3⟩, s0, s1, s2, s3⟩ := box4 (put4_far Bh2_4135.out hne2 (.int .u64 y) (.int .i64 b) (.int .i64 0) (.pointer none))
            go_simp
            refine hK.out _ _ ?_
            clear hK K
            try simp only [Act.put, List.setIfInBounds_toArray, List.set_cons_zero, List.set_cons_succ]
            refine RegL.wpAnyL_ready (rs := [7]) (by kernel_rfl) (by simp) ?_
            refine RegL.AllReadyL.late (o := ⟨none, Op.store 30 (Operand.tmp 8) (Operand.tmp 35), _, _, _, _⟩) rfl (by kernel_rfl) (fun K hK => ?_) RegL.AllReadyL.nil
            go_simp
            refine hK.out _ _ ?_
            clear hK K
            try simp only [Act.put, List.setIfInBounds_toArray, List.set_cons_zero, List.set_cons_succ]
            refine RegL.wpAnyL_done (by kernel_rfl) ?_ _
            refine NoPanic.normal ?_
            (go_wp2_with fail)
            go_meet
            exact ⟨_, _, rfl, rfl, HP⟩
          refine RegL.AllReadyL.calm (o := ⟨some 8, Op.alloc 30, _, _, _, _⟩) rfl (fun K hK => ?_) RegL.AllReadyL.nil
          go_simp
          have hb := (Below.refl w_41.heap.size w_41).alloc (Nat.le_refl _) (.cells #[.int .u64 0, .int .i64 0, .int .i64 0, .pointer none] MT)
          have hB := blk_new w_41 (.cells #[.int .u64 0, .int .i64 0, .int .i64 0, .pointer none] MT)
          have hz : (w_41.alloc (.cells #[.int .u64 0, .int .i64 0, .int .i64 0, .pointer none] MT)).heap.size = w_41.heap.size + 1 := by simp
          obtain ⟨h2, hh⟩ : ∃ h, h = w_41.heap.size := ⟨_, rfl⟩
          have Xh2_415 := Lib.hid hh
          rw [← hh] at hB ⊢
          clear hh
          generalize w_41.alloc (.cells #[.int .u64 0, .int .i64 0, .int .i64 0, .pointer none] MT) = w_415 at hb hB hz ⊢
          have HE_415 := Lib.hid hb; have Bh2_415 := Lib.hid hB; have Y_415 := Lib.hid hz
          clear hb hB hz
          have Z_415 := Lib.hid HE_415.out.size
          have HV_415 := Lib.hid (below_trans HV_41.out HE_415.out)
          have Bh1_415 := Lib.hid (blk_below Bh1_41.out HE_415.out)
          (try dsimp only)
          refine hK.out _ _ (⟨cell_below hS0xx.1 HE_415.out, cell_below hS0xx.2 HE_415.out⟩) (fun hS0xxx => ?_)
          clear hK K
          try simp only [Act.put, List.setIfInBounds_toArray, List.set_cons_zero, List.set_cons_succ]
          refine RegL.wpAnyL_ready (rs := [3]) (by kernel_rfl) (by simp) ?_
          refine RegL.AllReadyL.calm (o := ⟨some 35, Op.call { callee := Callee.value (Operand.func 19), args := #[Operand.tmp 34], argTypes := #[24] }, _, _, _, _⟩) rfl (fun K hK => ?_) RegL.AllReadyL.nil
          go_simp
          refine (HNA.out _).mono ?_
          rintro e w_4153 ⟨v, rfl, rfl, hb⟩
          have HE_4153 := Lib.hid hb
          clear hb
          have Z_4153 := Lib.hid HE_4153.out.size
          have HV_4153 := Lib.hid (below_trans HV_415.out HE_4153.out)
          have Bh1_4153 := Lib.hid (blk_below Bh1_415.out HE_4153.out)
          have Bh2_4153 := Lib.hid (blk_below Bh2_415.out HE_4153.out)
          (try dsimp only)
          refine hK.out _ _ (⟨cell_below hS0xxx.1 HE_4153.out, cell_below hS0xxx.2 HE_4153.out⟩) (fun hS0xxxx => ?_)
          clear hK K
          try simp only [Act.put, List.setIfInBounds_toArray, List.set_cons_zero, List.set_cons_succ]
          refine RegL.wpAnyL_ready (rs := [6]) (by kernel_rfl) (by simp) ?_
          refine RegL.AllReadyL.late (o := ⟨none, Op.store 30 (Operand.tmp 7) (Operand.tmp 33), _, _, _, _⟩) rfl (by kernel_rfl) (fun K hK => ?_) RegL.AllReadyL.nil
          have hne : h1 ≠ h2 := by have z0 := Z_.out; have z_4 := Z_4.out; have y_4 := Y_4.out; have x_4 := Xh1_4.out; have z_41 := Z_41.out; have z_415 := Z_415.out; have y_415 := Y_415.out; have x_415 := Xh2_415.out; have z_4153 := Z_4153.out; omega
          have hs1 : V.heap.size ≤ h1 := by have z0 := Z_.out; have z_4 := Z_4.out; have y_4 := Y_4.out; have x_4 := Xh1_4.out; have z_41 := Z_41.out; have z_415 := Z_415.out; have y_415 := Y_415.out; have x_415 := Xh2_415.out; have z_4153 := Z_4153.out; omega
          have hs2 : V.heap.size ≤ h2 := by have z0 := Z_.out; have z_4 := Z_4.out; have y_4 := Y_4.out; have x_4 := Xh1_4.out; have z_41 := Z_41.out; have z_415 := Z_415.out; have y_415 := Y_415.out; have x_415 := Xh2_415.out; have z_4153 := Z_4153.out; omega
          have HP := Lib.hid (p3_of Bh1_4153.out Bh2_4153.out hne hs1 hs2 HV_4153.out y b 0 none y b 0 none)
          have hne2 : h2 ≠ h1 := fun h => hne h.symm
          obtain ⟨⟨e0, e1, e2, e3⟩, f0, f1, f2, f3⟩ := box4 Bh1_4153.out
          obtain ⟨⟨r0, r1, r2, r3⟩, s0, s1, s2, s3⟩ := box4 (put4_far Bh2_4153.out hne2 (.int .u64 y) (.int .i64 b) (.int .i64 0) (.pointer none))
          go_simp
          refine hK.out _ _ ?_
          clear hK K
          try simp only [Act.put, List.setIfInBounds_toArray, List.set_cons_zero, List.set_cons_succ]
          refine RegL.wpAnyL_ready (rs := [7]) (by kernel_rfl) (by simp) ?_
          refine RegL.AllReadyL.late (o := ⟨none, Op.store 30 (Operand.tmp 8) (Operand.tmp 35), _, _, _, _⟩) rfl (by kernel_rfl) (fun K hK => ?_) RegL.AllReadyL.nil
          go_simp
          refine hK.out _ _ ?_
          clear hK K
          try simp only [Act.put, List.setIfInBounds_toArray, List.set_cons_zero, List.set_cons_succ]
          refine RegL.wpAnyL_done (by kernel_rfl) ?_ _
          refine NoPanic.normal ?_
          (go_wp2_with fail)
          go_meet
          exact ⟨_, _, rfl, rfl, HP⟩
        refine RegL.AllReadyL.calm (o := ⟨some 8, Op.alloc 30, _, _, _, _⟩) rfl (fun K hK => ?_) RegL.AllReadyL.nil
        go_simp
        have hb := (Below.refl w_4.heap.size w_4).alloc (Nat.le_refl _) (.cells #[.int .u64 0, .int .i64 0, .int .i64 0, .pointer none] MT)
        have hB := blk_new w_4 (.cells #[.int .u64 0, .int .i64 0, .int .i64 0, .pointer none] MT)
        have hz : (w_4.alloc (.cells #[.int .u64 0, .int .i64 0, .int .i64 0, .pointer none] MT)).heap.size = w_4.heap.size + 1 := by simp
        obtain ⟨h2, hh⟩ : ∃ h, h = w_4.heap.size := ⟨_, rfl⟩
        have Xh2_45 := Lib.hid hh
        rw [← hh] at hB ⊢
        clear hh
        generalize w_4.alloc (.cells #[.int .u64 0, .int .i64 0, .int .i64 0, .pointer none] MT) = w_45 at hb hB hz ⊢
        have HE_45 := Lib.hid hb; have Bh2_45 := Lib.hid hB; have Y_45 := Lib.hid hz
        clear hb hB hz
        have Z_45 := Lib.hid HE_45.out.size
        have HV_45 := Lib.hid (below_trans HV_4.out HE_45.out)
        have Bh1_45 := Lib.hid (blk_below Bh1_4.out HE_45.out)
        (try dsimp only)
        refine hK.out _ _ (⟨cell_below hS0x.1 HE_45.out, cell_below hS0x.2 HE_45.out⟩) (fun hS0xx => ?_)
        clear hK K
        try simp only [Act.put, List.setIfInBounds_toArray, List.set_cons_zero, List.set_cons_succ]
        refine RegL.wpAnyL_ready (rs := [1]) (by kernel_rfl) (by simp) ?_
        refine RegL.AllReadyL.calm (o := ⟨some 33, Op.call { callee := Callee.value (Operand.func 19), args := #[Operand.tmp 32], argTypes := #[24] }, _, _, _, _⟩) rfl (fun K hK => ?_) RegL.AllReadyL.nil
        go_simp
        refine (HNA.out _).mono ?_
        rintro e w_451 ⟨v, rfl, rfl, hb⟩
        have HE_451 := Lib.hid hb
        clear hb
        have Z_451 := Lib.hid HE_451.out.size
        have HV_451 := Lib.hid (below_trans HV_45.out HE_451.out)
        have Bh1_451 := Lib.hid (blk_below Bh1_45.out HE_451.out)
        have Bh2_451 := Lib.hid (blk_below Bh2_45.out HE_451.out)
        (try dsimp only)
        refine hK.out _ _ (⟨cell_below hS0xx.1 HE_451.out, cell_below hS0xx.2 HE_451.out⟩) (fun hS0xxx => ?_)
        clear hK K
        try simp only [Act.put, List.setIfInBounds_toArray, List.set_cons_zero, List.set_cons_succ]
        refine RegL.wpAnyL_ready (rs := [3]) (by kernel_rfl) (by simp) ?_
        refine RegL.AllReadyL.calm (o := ⟨some 35, Op.call { callee := Callee.value (Operand.func 19), args := #[Operand.tmp 34], argTypes := #[24] }, _, _, _, _⟩) rfl (fun K hK => ?_) RegL.AllReadyL.nil
        go_simp
        refine (HNA.out _).mono ?_
        rintro e w_4513 ⟨v, rfl, rfl, hb⟩
        have HE_4513 := Lib.hid hb
        clear hb
        have Z_4513 := Lib.hid HE_4513.out.size
        have HV_4513 := Lib.hid (below_trans HV_451.out HE_4513.out)
        have Bh1_4513 := Lib.hid (blk_below Bh1_451.out HE_4513.out)
        have Bh2_4513 := Lib.hid (blk_below Bh2_451.out HE_4513.out)
        (try dsimp only)
        refine hK.out _ _ (⟨cell_below hS0xxx.1 HE_4513.out, cell_below hS0xxx.2 HE_4513.out⟩) (fun hS0xxxx => ?_)
        clear hK K
        try simp only [Act.put, List.setIfInBounds_toArray, List.set_cons_zero, List.set_cons_succ]
        refine RegL.wpAnyL_ready (rs := [6]) (by kernel_rfl) (by simp) ?_
        refine RegL.AllReadyL.late (o := ⟨none, Op.store 30 (Operand.tmp 7) (Operand.tmp 33), _, _, _, _⟩) rfl (by kernel_rfl) (fun K hK => ?_) RegL.AllReadyL.nil
        have hne : h1 ≠ h2 := by have z0 := Z_.out; have z_4 := Z_4.out; have y_4 := Y_4.out; have x_4 := Xh1_4.out; have z_45 := Z_45.out; have y_45 := Y_45.out; have x_45 := Xh2_45.out; have z_451 := Z_451.out; have z_4513 := Z_4513.out; omega
        have hs1 : V.heap.size ≤ h1 := by have z0 := Z_.out; have z_4 := Z_4.out; have y_4 := Y_4.out; have x_4 := Xh1_4.out; have z_45 := Z_45.out; have y_45 := Y_45.out; have x_45 := Xh2_45.out; have z_451 := Z_451.out; have z_4513 := Z_4513.out; omega
        have hs2 : V.heap.size ≤ h2 := by have z0 := Z_.out; have z_4 := Z_4.out; have y_4 := Y_4.out; have x_4 := Xh1_4.out; have z_45 := Z_45.out; have y_45 := Y_45.out; have x_45 := Xh2_45.out; have z_451 := Z_451.out; have z_4513 := Z_4513.out; omega
        have HP := Lib.hid (p3_of Bh1_4513.out Bh2_4513.out hne hs1 hs2 HV_4513.out y b 0 none y b 0 none)
        have hne2 : h2 ≠ h1 := fun h => hne h.symm
        obtain ⟨⟨e0, e1, e2, e3⟩, f0, f1, f2, f3⟩ := box4 Bh1_4513.out
        obtain ⟨⟨r0, r1, r2, r3⟩, s0, s1, s2, s3⟩ := box4 (put4_far Bh2_4513.out hne2 (.int .u64 y) (.int .i64 b) (.int .i64 0) (.pointer none))
        go_simp
        refine hK.out _ _ ?_
        clear hK K
        try simp only [Act.put, List.setIfInBounds_toArray, List.set_cons_zero, List.set_cons_succ]
        refine RegL.wpAnyL_ready (rs := [7]) (by kernel_rfl) (by simp) ?_
        refine RegL.AllReadyL.late (o := ⟨none, Op.store 30 (Operand.tmp 8) (Operand.tmp 35), _, _, _, _⟩) rfl (by kernel_rfl) (fun K hK => ?_) RegL.AllReadyL.nil
        go_simp
        refine hK.out _ _ ?_
        clear hK K
        try simp only [Act.put, List.setIfInBounds_toArray, List.set_cons_zero, List.set_cons_succ]
        refine RegL.wpAnyL_done (by kernel_rfl) ?_ _
        refine NoPanic.normal ?_
        (go_wp2_with fail)
        go_meet
        exact ⟨_, _, rfl, rfl, HP⟩
      refine RegL.AllReadyL.calm (o := ⟨some 8, Op.alloc 30, _, _, _, _⟩) rfl (fun K hK => ?_) RegL.AllReadyL.nil
      go_simp
      have hb := (Below.refl V0.heap.size V0).alloc (Nat.le_refl _) (.cells #[.int .u64 0, .int .i64 0, .int .i64 0, .pointer none] MT)
      have hB := blk_new V0 (.cells #[.int .u64 0, .int .i64 0, .int .i64 0, .pointer none] MT)
      have hz : (V0.alloc (.cells #[.int .u64 0, .int .i64 0, .int .i64 0, .pointer none] MT)).heap.size = V0.heap.size + 1 := by simp
      obtain ⟨h2, hh⟩ : ∃ h, h = V0.heap.size := ⟨_, rfl⟩
      have Xh2_5 := Lib.hid hh
      rw [← hh] at hB ⊢
      clear hh
      generalize V0.alloc (.cells #[.int .u64 0, .int .i64 0, .int .i64 0, .pointer none] MT) = w_5 at hb hB hz ⊢
      have HE_5 := Lib.hid hb; have Bh2_5 := Lib.hid hB; have Y_5 := Lib.hid hz
      clear hb hB hz
      have Z_5 := Lib.hid HE_5.out.size
      have HV_5 := Lib.hid (below_trans HV_.out HE_5.out)
      (try dsimp only)
      refine hK.out _ _ (⟨cell_below hS0.1 HE_5.out, cell_below hS0.2 HE_5.out⟩) (fun hS0x => ?_)
      clear hK K
      try simp only [Act.put, List.setIfInBounds_toArray, List.set_cons_zero, List.set_cons_succ]
      refine RegL.wpAnyL_ready (rs := [1, 4]) (by kernel_rfl) (by simp) ?_
      refine RegL.AllReadyL.calm (o := ⟨some 33, Op.call { callee := Callee.value (Operand.func 19), args := #[Operand.tmp 32], argTypes := #[24] }, _, _, _, _⟩) rfl (fun K hK => ?_) ?_
      · go_simp
        refine (HNA.out _).mono ?_
        rintro e w_51 ⟨v, rfl, rfl, hb⟩
        have HE_51 := Lib.hid hb
        clear hb
        have Z_51 := Lib.hid HE_51.out.size
        have HV_51 := Lib.hid (below_trans HV_5.out HE_51.out)
        have Bh2_51 := Lib.hid (blk_below Bh2_5.out HE_51.out)
        (try dsimp only)
        refine hK.out _ _ (⟨cell_below hS0x.1 HE_51.out, cell_below hS0x.2 HE_51.out⟩) (fun hS0xx => ?_)
        clear hK K
        try simp only [Act.put, List.setIfInBounds_toArray, List.set_cons_zero, List.set_cons_succ]
        refine RegL.wpAnyL_ready (rs := [3, 4]) (by kernel_rfl) (by simp) ?_
        refine RegL.AllReadyL.calm (o := ⟨some 35, Op.call { callee := Callee.value (Operand.func 19), args := #[Operand.tmp 34], argTypes := #[24] }, _, _, _, _⟩) rfl (fun K hK => ?_) ?_
        · go_simp
          refine (HNA.out _).mono ?_
          rintro e w_513 ⟨v, rfl, rfl, hb⟩
          have HE_513 := Lib.hid hb
          clear hb
          have Z_513 := Lib.hid HE_513.out.size
          have HV_513 := Lib.hid (below_trans HV_51.out HE_513.out)
          have Bh2_513 := Lib.hid (blk_below Bh2_51.out HE_513.out)
          (try dsimp only)
          refine hK.out _ _ (⟨cell_below hS0xx.1 HE_513.out, cell_below hS0xx.2 HE_513.out⟩) (fun hS0xxx => ?_)
          clear hK K
          try simp only [Act.put, List.setIfInBounds_toArray, List.set_cons_zero, List.set_cons_succ]
          refine RegL.wpAnyL_ready (rs := [4]) (by kernel_rfl) (by simp) ?_
          refine RegL.AllReadyL.calm (o := ⟨some 7, Op.alloc 30, _, _, _, _⟩) rfl (fun K hK => ?_) RegL.AllReadyL.nil
          go_simp
          have hb := (Below.refl w_513.heap.size w_513).alloc (Nat.le_refl _) (.cells #[.int .u64 0, .int .i64 0, .int .i64 0, .pointer none] MT)
          have hB := blk_new w_513 (.cells #[.int .u64 0, .int .i64 0, .int .i64 0, .pointer none] MT)
          have hz : (w_513.alloc (.cells #[.int .u64 0, .int .i64 0, .int .i64 0, .pointer none] MT)).heap.size = w_513.heap.size + 1 := by simp
          obtain ⟨h1, hh⟩ : ∃ h, h = w_513.heap.size := ⟨_, rfl⟩
          have Xh1_5134 := Lib.hid hh
          rw [← hh] at hB ⊢
          clear hh
          generalize w_513.alloc (.cells #[.int .u64 0, .int .i64 0, .int .i64 0, .pointer none] MT) = w_5134 at hb hB hz ⊢
          have HE_5134 := Lib.hid hb; have Bh1_5134 := Lib.hid hB; have Y_5134 := Lib.hid hz
          clear hb hB hz
          have Z_5134 := Lib.hid HE_5134.out.size
          have HV_5134 := Lib.hid (below_trans HV_513.out HE_5134.out)
          have Bh2_5134 := Lib.hid (blk_below Bh2_513.out HE_5134.out)
          (try dsimp only)
          refine hK.out _ _ (⟨cell_below hS0xxx.1 HE_5134.out, cell_below hS0xxx.2 HE_5134.out⟩) (fun hS0xxxx => ?_)
          clear hK K
          try simp only [Act.put, List.setIfInBounds_toArray, List.set_cons_zero, List.set_cons_succ]
          refine RegL.wpAnyL_ready (rs := [6]) (by kernel_rfl) (by simp) ?_
          refine RegL.AllReadyL.late (o := ⟨none, Op.store 30 (Operand.tmp 7) (Operand.tmp 33), _, _, _, _⟩) rfl (by kernel_rfl) (fun K hK => ?_) RegL.AllReadyL.nil
          have hne : h1 ≠ h2 := by have z0 := Z_.out; have z_5 := Z_5.out; have y_5 := Y_5.out; have x_5 := Xh2_5.out; have z_51 := Z_51.out; have z_513 := Z_513.out; have z_5134 := Z_5134.out; have y_5134 := Y_5134.out; have x_5134 := Xh1_5134.out; omega
          have hs1 : V.heap.size ≤ h1 := by have z0 := Z_.out; have z_5 := Z_5.out; have y_5 := Y_5.out; have x_5 := Xh2_5.out; have z_51 := Z_51.out; have z_513 := Z_513.out; have z_5134 := Z_5134.out; have y_5134 := Y_5134.out; have x_5134 := Xh1_5134.out; omega
          have hs2 : V.heap.size ≤ h2 := by have z0 := Z_.out; have z_5 := Z_5.out; have y_5 := Y_5.out; have x_5 := Xh2_5.out; have z_51 := Z_51.out; have z_513 := Z_513.out; have z_5134 := Z_5134.out; have y_5134 := Y_5134.out; have x_5134 := Xh1_5134.out; omega
          have HP := Lib.hid (p3_of Bh1_5134.out Bh2_5134.out hne hs1 hs2 HV_5134.out y b 0 none y b 0 none)
          have hne2 : h2 ≠ h1 := fun h => hne h.symm
          obtain ⟨⟨e0, e1, e2, e3⟩, f0, f1, f2, f3⟩ := box4 Bh1_5134.out
          obtain ⟨⟨r0, r1, r2, r3⟩, s0, s1, s2, s3⟩ := box4 (put4_far Bh2_5134.out hne2 (.int .u64 y) (.int .i64 b) (.int .i64 0) (.pointer none))
          go_simp
          refine hK.out _ _ ?_
          clear hK K
          try simp only [Act.put, List.setIfInBounds_toArray, List.set_cons_zero, List.set_cons_succ]
          refine RegL.wpAnyL_ready (rs := [7]) (by kernel_rfl) (by simp) ?_
          refine RegL.AllReadyL.late (o := ⟨none, Op.store 30 (Operand.tmp 8) (Operand.tmp 35), _, _, _, _⟩) rfl (by kernel_rfl) (fun K hK => ?_) RegL.AllReadyL.nil
          go_simp
          refine hK.out _ _ ?_
          clear hK K
          try simp only [Act.put, List.setIfInBounds_toArray, List.set_cons_zero, List.set_cons_succ]
          refine RegL.wpAnyL_done (by kernel_rfl) ?_ _
          refine NoPanic.normal ?_
          (go_wp2_with fail)
          go_meet
          exact ⟨_, _, rfl, rfl, HP⟩
        refine RegL.AllReadyL.calm (o := ⟨some 7, Op.alloc 30, _, _, _, _⟩) rfl (fun K hK => ?_) RegL.AllReadyL.nil
        go_simp
        have hb := (Below.refl w_51.heap.size w_51).alloc (Nat.le_refl _) (.cells #[.int .u64 0, .int .i64 0, .int .i64 0, .pointer none] MT)
        have hB := blk_new w_51 (.cells #[.int .u64 0, .int .i64 0, .int .i64 0, .pointer none] MT)
        have hz : (w_51.alloc (.cells #[.int .u64 0, .int .i64 0, .int .i64 0, .pointer none] MT)).heap.size = w_51.heap.size + 1 := by simp
        obtain ⟨h1, hh⟩ : ∃ h, h = w_51.heap.size := ⟨_, rfl⟩
        have Xh1_514 := Lib.hid hh
        rw [← hh] at hB ⊢
        clear hh
        generalize w_51.alloc (.cells #[.int .u64 0, .int .i64 0, .int .i64 0, .pointer none] MT) = w_514 at hb hB hz ⊢
        have HE_514 := Lib.hid hb; have Bh1_514 := Lib.hid hB; have Y_514 := Lib.hid hz
        clear hb hB hz
        have Z_514 := Lib.hid HE_514.out.size
        have HV_514 := Lib.hid (below_trans HV_51.out HE_514.out)
        have Bh2_514 := Lib.hid (blk_below Bh2_51.out HE_514.out)
        (try dsimp only)
        refine hK.out _ _ (⟨cell_below hS0xx.1 HE_514.out, cell_below hS0xx.2 HE_514.out⟩) (fun hS0xxx => ?_)
        clear hK K
        try simp only [Act.put, List.setIfInBounds_toArray, List.set_cons_zero, List.set_cons_succ]
        refine RegL.wpAnyL_ready (rs := [3]) (by kernel_rfl) (by simp) ?_
        refine RegL.AllReadyL.calm (o := ⟨some 35, Op.call { callee := Callee.value (Operand.func 19), args := #[Operand.tmp 34], argTypes := #[24] }, _, _, _, _⟩) rfl (fun K hK => ?_) RegL.AllReadyL.nil
        go_simp
        refine (HNA.out _).mono ?_
        rintro e w_5143 ⟨v, rfl, rfl, hb⟩
        have HE_5143 := Lib.hid hb
        clear hb
        have Z_5143 := Lib.hid HE_5143.out.size
        have HV_5143 := Lib.hid (below_trans HV_514.out HE_5143.out)
        have Bh2_5143 := Lib.hid (blk_below Bh2_514.out HE_5143.out)
        have Bh1_5143 := Lib.hid (blk_below Bh1_514.out HE_5143.out)
        (try dsimp only)
        refine hK.out _ _ (⟨cell_below hS0xxx.1 HE_5143.out, cell_below hS0xxx.2 HE_5143.out⟩) (fun hS0xxxx => ?_)
        clear hK K
        try simp only [Act.put, List.setIfInBounds_toArray, List.set_cons_zero, List.set_cons_succ]
        refine RegL.wpAnyL_ready (rs := [6]) (by kernel_rfl) (by simp) ?_
        refine RegL.AllReadyL.late (o := ⟨none, Op.store 30 (Operand.tmp 7) (Operand.tmp 33), _, _, _, _⟩) rfl (by kernel_rfl) (fun K hK => ?_) RegL.AllReadyL.nil
        have hne : h1 ≠ h2 := by have z0 := Z_.out; have z_5 := Z_5.out; have y_5 := Y_5.out; have x_5 := Xh2_5.out; have z_51 := Z_51.out; have z_514 := Z_514.out; have y_514 := Y_514.out; have x_514 := Xh1_514.out; have z_5143 := Z_5143.out; omega
        have hs1 : V.heap.size ≤ h1 := by have z0 := Z_.out; have z_5 := Z_5.out; have y_5 := Y_5.out; have x_5 := Xh2_5.out; have z_51 := Z_51.out; have z_514 := Z_514.out; have y_514 := Y_514.out; have x_514 := Xh1_514.out; have z_5143 := Z_5143.out; omega
        have hs2 : V.heap.size ≤ h2 := by have z0 := Z_.out; have z_5 := Z_5.out; have y_5 := Y_5.out; have x_5 := Xh2_5.out; have z_51 := Z_51.out; have z_514 := Z_514.out; have y_514 := Y_514.out; have x_514 := Xh1_514.out; have z_5143 := Z_5143.out; omega
        have HP := Lib.hid (p3_of Bh1_5143.out Bh2_5143.out hne hs1 hs2 HV_5143.out y b 0 none y b 0 none)
        have hne2 : h2 ≠ h1 := fun h => hne h.symm
        obtain ⟨⟨e0, e1, e2, e3⟩, f0, f1, f2, f3⟩ := box4 Bh1_5143.out
        obtain ⟨⟨r0, r1, r2, r3⟩, s0, s1, s2, s3⟩ := box4 (put4_far Bh2_5143.out hne2 (.int .u64 y) (.int .i64 b) (.int .i64 0) (.pointer none))
        go_simp
        refine hK.out _ _ ?_
        clear hK K
        try simp only [Act.put, List.setIfInBounds_toArray, List.set_cons_zero, List.set_cons_succ]
        refine RegL.wpAnyL_ready (rs := [7]) (by kernel_rfl) (by simp) ?_
        refine RegL.AllReadyL.late (o := ⟨none, Op.store 30 (Operand.tmp 8) (Operand.tmp 35), _, _, _, _⟩) rfl (by kernel_rfl) (fun K hK => ?_) RegL.AllReadyL.nil
        go_simp
        refine hK.out _ _ ?_
        clear hK K
        try simp only [Act.put, List.setIfInBounds_toArray, List.set_cons_zero, List.set_cons_succ]
        refine RegL.wpAnyL_done (by kernel_rfl) ?_ _
        refine NoPanic.normal ?_
        (go_wp2_with fail)
        go_meet
        exact ⟨_, _, rfl, rfl, HP⟩
      refine RegL.AllReadyL.calm (o := ⟨some 7, Op.alloc 30, _, _, _, _⟩) rfl (fun K hK => ?_) RegL.AllReadyL.nil
      go_simp
      have hb := (Below.refl w_5.heap.size w_5).alloc (Nat.le_refl _) (.cells #[.int .u64 0, .int .i64 0, .int .i64 0, .pointer none] MT)
      have hB := blk_new w_5 (.cells #[.int .u64 0, .int .i64 0, .int .i64 0, .pointer none] MT)
      have hz : (w_5.alloc (.cells #[.int .u64 0, .int .i64 0, .int .i64 0, .pointer none] MT)).heap.size = w_5.heap.size + 1 := by simp
      obtain ⟨h1, hh⟩ : ∃ h, h = w_5.heap.size := ⟨_, rfl⟩
      have Xh1_54 := Lib.hid hh
      rw [← hh] at hB ⊢
      clear hh
      generalize w_5.alloc (.cells #[.int .u64 0, .int .i64 0, .int .i64 0, .pointer none] MT) = w_54 at hb hB hz ⊢
      have HE_54 := Lib.hid hb; have Bh1_54 := Lib.hid hB; have Y_54 := Lib.hid hz
      clear hb hB hz
      have Z_54 := Lib.hid HE_54.out.size
      have HV_54 := Lib.hid (below_trans HV_5.out HE_54.out)
      have Bh2_54 := Lib.hid (blk_below Bh2_5.out HE_54.out)
      (try dsimp only)
      refine hK.out _ _ (⟨cell_below hS0x.1 HE_54.out, cell_below hS0x.2 HE_54.out⟩) (fun hS0xx => ?_)
      clear hK K
      try simp only [Act.put, List.setIfInBounds_toArray, List.set_cons_zero, List.set_cons_succ]
      refine RegL.wpAnyL_ready (rs := [1]) (by kernel_rfl) (by simp) ?_
      refine RegL.AllReadyL.calm (o := ⟨some 33, Op.call { callee := Callee.value (Operand.func 19), args := #[Operand.tmp 32], argTypes := #[24] }, _, _, _, _⟩) rfl (fun K hK => ?_) RegL.AllReadyL.nil
      go_simp
      refine (HNA.out _).mono ?_
      rintro e w_541 ⟨v, rfl, rfl, hb⟩
      have HE_541 := Lib.hid hb
      clear hb
      have Z_541 := Lib.hid HE_541.out.size
      have HV_541 := Lib.hid (below_trans HV_54.out HE_541.out)
      have Bh2_541 := Lib.hid (blk_below Bh2_54.out HE_541.out)
      have Bh1_541 := Lib.hid (blk_below Bh1_54.out HE_541.out)
      (try dsimp only)
      refine hK.out _ _ (⟨cell_below hS0xx.1 HE_541.out, cell_below hS0xx.2 HE_541.out⟩) (fun hS0xxx => ?_)
      clear hK K
      try simp only [Act.put, List.setIfInBounds_toArray, List.set_cons_zero, List.set_cons_succ]
      refine RegL.wpAnyL_ready (rs := [3]) (by kernel_rfl) (by simp) ?_
      refine RegL.AllReadyL.calm (o := ⟨some 35, Op.call { callee := Callee.value (Operand.func 19), args := #[Operand.tmp 34], argTypes := #[24] }, _, _, _, _⟩) rfl (fun K hK => ?_) RegL.AllReadyL.nil
      go_simp
      refine (HNA.out _).mono ?_
      rintro e w_5413 ⟨v, rfl, rfl, hb⟩
      have HE_5413 := Lib.hid hb
      clear hb
      have Z_5413 := Lib.hid HE_5413.out.size
      have HV_5413 := Lib.hid (below_trans HV_541.out HE_5413.out)
      have Bh2_5413 := Lib.hid (blk_below Bh2_541.out HE_5413.out)
      have Bh1_5413 := Lib.hid (blk_below Bh1_541.out HE_5413.out)
      (try dsimp only)
      refine hK.out _ _ (⟨cell_below hS0xxx.1 HE_5413.out, cell_below hS0xxx.2 HE_5413.out⟩) (fun hS0xxxx => ?_)
      clear hK K
      try simp only [Act.put, List.setIfInBounds_toArray, List.set_cons_zero, List.set_cons_succ]
      refine RegL.wpAnyL_ready (rs := [6]) (by kernel_rfl) (by simp) ?_
      refine RegL.AllReadyL.late (o := ⟨none, Op.store 30 (Operand.tmp 7) (Operand.tmp 33), _, _, _, _⟩) rfl (by kernel_rfl) (fun K hK => ?_) RegL.AllReadyL.nil
      have hne : h1 ≠ h2 := by have z0 := Z_.out; have z_5 := Z_5.out; have y_5 := Y_5.out; have x_5 := Xh2_5.out; have z_54 := Z_54.out; have y_54 := Y_54.out; have x_54 := Xh1_54.out; have z_541 := Z_541.out; have z_5413 := Z_5413.out; omega
      have hs1 : V.heap.size ≤ h1 := by have z0 := Z_.out; have z_5 := Z_5.out; have y_5 := Y_5.out; have x_5 := Xh2_5.out; have z_54 := Z_54.out; have y_54 := Y_54.out; have x_54 := Xh1_54.out; have z_541 := Z_541.out; have z_5413 := Z_5413.out; omega
      have hs2 : V.heap.size ≤ h2 := by have z0 := Z_.out; have z_5 := Z_5.out; have y_5 := Y_5.out; have x_5 := Xh2_5.out; have z_54 := Z_54.out; have y_54 := Y_54.out; have x_54 := Xh1_54.out; have z_541 := Z_541.out; have z_5413 := Z_5413.out; omega
      have HP := Lib.hid (p3_of Bh1_5413.out Bh2_5413.out hne hs1 hs2 HV_5413.out y b 0 none y b 0 none)
      have hne2 : h2 ≠ h1 := fun h => hne h.symm
      obtain ⟨⟨e0, e1, e2, e3⟩, f0, f1, f2, f3⟩ := box4 Bh1_5413.out
      obtain ⟨⟨r0, r1, r2, r3⟩, s0, s1, s2, s3⟩ := box4 (put4_far Bh2_5413.out hne2 (.int .u64 y) (.int .i64 b) (.int .i64 0) (.pointer none))
      go_simp
      refine hK.out _ _ ?_
      clear hK K
      try simp only [Act.put, List.setIfInBounds_toArray, List.set_cons_zero, List.set_cons_succ]
      refine RegL.wpAnyL_ready (rs := [7]) (by kernel_rfl) (by simp) ?_
      refine RegL.AllReadyL.late (o := ⟨none, Op.store 30 (Operand.tmp 8) (Operand.tmp 35), _, _, _, _⟩) rfl (by kernel_rfl) (fun K hK => ?_) RegL.AllReadyL.nil
      go_simp
      refine hK.out _ _ ?_
      clear hK K
      try simp only [Act.put, List.setIfInBounds_toArray, List.set_cons_zero, List.set_cons_succ]
      refine RegL.wpAnyL_done (by kernel_rfl) ?_ _
      refine NoPanic.normal ?_
      (go_wp2_with fail)
      go_meet
      exact ⟨_, _, rfl, rfl, HP⟩
  case rest =>
    obtain ⟨h1, h2, rfl, rfl, hh⟩ := hcut
    have hbe := hh.out.2.2.2.2.2
    have HL1 := Lib.hid (Nat.le_trans HVW.out.size hh.out.2.1); have HL2 := Lib.hid (Nat.le_trans HVW.out.size hh.out.2.2.1)
    have HS0 := Lib.hid (tw2_start c HY.out HBE.out hh.out)
    have HBS := Lib.hid (below_trans HVW.out hbe)
    clear hh hbe a0 a1 HCV HNA HVW
    go_wp2_with fail
    go_loopg [38] T (fun k v38 wr => Aside (OsA c y b W h1 h2 T k v38 wr ()))
    case atStart =>
      show OsA _ _ _ _ _ _ _ _ _ _ _
      exact ⟨0, _, _, _, rfl, by omega, by simp, HS0.out, HBS.out⟩
    case round =>
      obtain ⟨i, n, p, L, rfl, hiT, hLi, hTw, hB⟩ := hrel.out
      clear hrel HS0 HBS
      by_cases hlt : i < T
      · have hltI : (i : Int) < (T : Int) := by omega
        obtain ⟨x, hx⟩ : ∃ x, os[i]? = some x := ⟨_, List.getElem?_eq_getElem (by rw [← HTE.out]; exact hlt)⟩
        obtain ⟨ad, rfl, x0, x1, x2⟩ := HO.out.at i x hx
        have x0 := cell_below x0 hB
        have x1 := cell_below x1 hB
        have x2 := cell_below x2 hB
        have hok := HK.out x (List.mem_of_getElem? hx)
        obtain ⟨gk, rfl⟩ : ∃ g, gk = g + 1 := ⟨gk - 1, by omega⟩
        have hbl := (Below.refl wr.heap.size wr).alloc (Nat.le_refl _) (.cells #[.string x.f0, .int .i64 x.f1, .bool x.f2] OT)
        have HT2 := Lib.hid (hTw.below hbl); have HBN := Lib.hid (below_trans hB hbl)
        have hLl : L.length ≤ 1000 := by omega
        have HLN := Lib.hid (show (doL L (o1 x)).length ≤ i + 1 from Nat.le_trans (doL_length L _ hTw.srt1.1) (by omega))
        have HDO := Lib.hid (does_mv HY.out HBE.out HT2.out.2.2.2.1 hLl (o1 x) (Nat.le_trans hok (by decide)) (HT.out.below HBN.out))
        obtain ⟨⟨q0, q1, q2, q3⟩, -⟩ := box4 HT2.out.2.1
        obtain ⟨⟨o0, o1', o2⟩, -⟩ := box3 (blk_new wr (.cells #[.string x.f0, .int .i64 x.f1, .bool x.f2] OT))
        clear hTw hB hbl hx
        go_wp2_with (first
          | (go_at_call 20; ((refine (HDO.out).mono ?_); rintro e w5 ⟨v, rfl, ⟨m', q', rfl, hm⟩, hb1⟩; have HTW := Lib.hid (tw2_put1 HT2.out hb1 hm); have HW5 := Lib.hid (put4_below (below_trans HBN.out hb1) HL1.out (.int .u64 y) (.int .i64 b) (.int .i64 m') (.pointer q')); obtain ⟨⟨e0, e1, e2, e3⟩, f0, f1, f2, f3⟩ := box4 (blk_below HT2.out.2.1 hb1); clear hm hb1))
          | fail)
        go_roundg gk
        case measure => omega
        case rel =>
          show OsA _ _ _ _ _ _ _ _ _ _ _
          exact ⟨i + 1, _, _, _, by first | rfl | (push_cast; rfl), by omega, HLN.out, HTW.out, HW5.out⟩
      · have hL1 : L.length ≤ 120 := by omega
        have HT1 := Lib.hid hTw; have HB1 := Lib.hid hB
        clear hTw hB hLi
        go_wp2_with fail
        go_loopg [48] N (fun k v48 wr => Aside (OsB c y b W h1 h2 n p L more N k v48 wr ()))
        case atStart =>
          show OsB _ _ _ _ _ _ _ _ _ _ _ _ _ _ _
          exact ⟨0, _, _, _, rfl, by omega, by simp, HT1.out, fun x hx => absurd rfl hx, by simp, HB1.out⟩
        case round =>
          obtain ⟨j, n', p', M, rfl, hjN, hMl, hTw, hmem, hsz, hB⟩ := hrel.out
          clear hrel HT1 HB1
          by_cases hlt2 : j < N
          · have hltI : (j : Int) < (N : Int) := by omega
            obtain ⟨x, hx⟩ : ∃ x, more[j]? = some x := ⟨_, List.getElem?_eq_getElem (by rw [← HNE.out]; exact hlt2)⟩
            obtain ⟨ad, rfl, hkc⟩ := HX.out.at j x hx
            have hkc := cell_below hkc hB
            obtain ⟨gk, rfl⟩ : ∃ g, gk = g + 1 := ⟨gk - 1, by omega⟩
            by_cases hxs : (x.size : Int) > 200
            · have HEND := Lib.hid hB
              clear hTw hmem hsz hB hx
              go_wp2_with fail
              go_returns
              exact ⟨rfl, HEND.out⟩
            · have HT2 := Lib.hid hTw; have HBW := Lib.hid hB
              have htk : more.take (j + 1) = more.take j ++ [x] := by rw [List.take_add_one, hx]; rfl
              have HFA := Lib.hid (show ∀ z, lkp (ins M x 1) z ≠ none → z ∈ more.take (j + 1) from fun z hz => by
                rw [htk, List.mem_append]
                rw [lkp_ins] at hz
                by_cases hzx : z = x
                · right; simp [hzx]
                · rw [if_neg hzx] at hz; exact Or.inl (hmem z hz))
              have HFB := Lib.hid (show ∀ z ∈ more.take (j + 1), z.size ≤ 200 from fun z hz => by
                rw [htk, List.mem_append] at hz
                rcases hz with hz | hz
                · exact hsz z hz
                · simp at hz; subst hz; omega)
              have HLN := Lib.hid (show (ins M x 1).length ≤ j + 1 from Nat.le_trans (ins_len' M _ _ hTw.srt2.1) (by omega))
              have HST := Lib.hid (sets_mv' HY.out HBE.out hTw.2.2.2.2 (by omega) x 1 (by omega))
              obtain ⟨⟨q0, q1, q2, q3⟩, -⟩ := box4 hTw.2.2.1
              have hxs2 : (x.size : Int) ≤ 200 := by omega
              clear hTw hmem hsz hB hx htk
              go_wp2_with (first
                | (go_at_call 25; ((with_reducible refine (HST.out).mono ?_); rintro e w5 ⟨v, rfl, ⟨m', q', rfl, hm⟩, hb1⟩; have HTW := Lib.hid (tw2_put2 HT2.out hb1 hm); have HW5 := Lib.hid (put4_below (below_trans HBW.out hb1) HL2.out (.int .u64 y) (.int .i64 b) (.int .i64 m') (.pointer q')); obtain ⟨⟨e0, e1, e2, e3⟩, f0, f1, f2, f3⟩ := box4 (blk_below HT2.out.2.2.1 hb1); clear hm hb1))
                | fail)
              go_roundg gk
              case measure => omega
              case rel =>
                show OsB _ _ _ _ _ _ _ _ _ _ _ _ _ _ _
                exact ⟨j + 1, _, _, _, by first | rfl | (push_cast; rfl), by omega, HLN.out, HTW.out, HFA.out, HFB.out, HW5.out⟩
          · have htk : more.take j = more := List.take_of_length_le (by have := HNE.out; omega)
            rw [htk] at hmem hsz
            have HMS := Lib.hid hsz
            have HT2 := Lib.hid hTw; have HBW := Lib.hid hB; have HM0 := Lib.hid hmem
            have HKY := Lib.hid (keys_c c _ _ L wr hTw.2.2.2.1 (by omega) (HT.out.below hB))
            obtain ⟨N1, hN1⟩ : ∃ N1, N1 = L.length := ⟨_, rfl⟩
            have HN1 := Lib.hid hN1
            have hN1I : (N1 : Int) ≤ 120 := by omega
            have HSR := Lib.hid hTw.srt1
            obtain ⟨⟨q0, q1, q2, q3⟩, -⟩ := box4 hTw.2.1
            have hMl2 : M.length ≤ N := by omega
            have HH2K := Lib.hid (blk_lt hTw.2.2.1)
            clear hTw hmem hsz hB htk hN1
            go_wp2_with (first
              | (go_at_call 26; ((with_reducible refine (HKY.out).mono ?_); rintro e w7 ⟨v, rfl, hs, hb⟩; obtain ⟨Ak, ck, he⟩ := SlV.form' hs; rw [ksV_length, ← HN1.out] at he; subst he; have HS := Lib.hid (hs.mono (K' := fun x => x ≠ h2) (fun x hx e => by have h9 := HH2K.out; subst e; exact absurd hx (by show ¬ wr.heap.size ≤ x; omega))); have HW7 := Lib.hid (below_trans HBW.out hb); have HT7 := Lib.hid (HT2.out.below hb); clear hs hb))
              | fail)
            clear q0 q1 q2 q3 HKY
            go_loopg [63] N1 (fun k v63 wr => Aside (OsC c y b W (.slice Ak N1 ck) h1 h2 n p L more N N1 k v63 wr ()))
            case atStart =>
              show OsC _ _ _ _ _ _ _ _ _ _ _ _ _ _ _ _ _
              exact ⟨0, _, _, _, rfl, by omega, by omega, HT7.out, by simp, fun x hx => Or.inl (HM0.out x hx), HW7.out, HS.out⟩
            case round =>
              obtain ⟨i, n', p', M, rfl, hiN, hMl, hTw, hfa, hfb, hB, hB7⟩ := hrel.out
              clear hrel HT7 HW7 HM0
              by_cases hlt3 : i < N1
              · have hltI : (i : Int) < (N1 : Int) := by omega
                obtain ⟨gk, rfl⟩ : ∃ g, gk = g + 1 := ⟨gk - 1, by omega⟩
                obtain ⟨j, hj⟩ : ∃ j, j = N1 - 1 - i := ⟨_, rfl⟩
                have hjN : (j : Int) < (N1 : Int) := by omega
                have hj0 : (0 : Int) ≤ (j : Int) := by omega
                have hw1 : IntKind.i64.wrap ((N1 : Int) - 1) = (N1 : Int) - 1 := by rw [IntKind.wrap_i64]; omega
                have hw2 : IntKind.i64.wrap ((N1 : Int) - 1 - (i : Int)) = (j : Int) := by rw [IntKind.wrap_i64]; omega
                obtain ⟨⟨ek, ex⟩, he⟩ : ∃ e, L[j]? = some e := ⟨_, List.getElem?_eq_getElem (by rw [← HN1.out]; omega)⟩
                have HKV := Lib.hid hB7
                obtain ⟨ad, rfl, hkc⟩ := hB7.addr (by rw [ksV_length, ← HN1.out]; omega)
                have hk := hkc j (.string ek) (by simp [ksV, he])
                have hes : ek.size ≤ 1000000 := HSR.out.2 _ (List.mem_of_getElem? he)
                have HT2 := Lib.hid hTw
                have hdr : L.drop (L.length - (i + 1)) = (ek, ex) :: L.drop (L.length - i) := by
                  have e1 : L.length - (i + 1) = j := by rw [← HN1.out]; omega
                  have e2 : L.length - i = j + 1 := by rw [← HN1.out]; omega
                  obtain ⟨hjl, hje⟩ := List.getElem?_eq_some_iff.1 he
                  rw [e1, e2, List.drop_eq_getElem_cons hjl, hje]
                have HFA := Lib.hid (show ∀ e ∈ L.drop (L.length - (i + 1)), lkp (ins M ek 2) e.1 ≠ none from fun e hm => by
                  rw [hdr] at hm
                  rw [lkp_ins]
                  by_cases hek : e.1 = ek
                  · rw [if_pos hek]; simp
                  · rw [if_neg hek]
                    rcases List.mem_cons.1 hm with h | h
                    · rw [h] at hek; exact absurd rfl hek
                    · exact hfa e h)
                have HFB := Lib.hid (show ∀ z, lkp (ins M ek 2) z ≠ none → z ∈ more ∨ lkp L z ≠ none from fun z hz => by
                  rw [lkp_ins] at hz
                  by_cases hzx : z = ek
                  · right; rw [hzx]; exact mem_keys.1 ⟨_, List.mem_of_getElem? he, rfl⟩
                  · rw [if_neg hzx] at hz; exact hfb z hz)
                have HLM := Lib.hid (show (ins M ek 2).length ≤ N + (i + 1) from Nat.le_trans (ins_len' M _ _ hTw.srt2.1) (by omega))
                have HST := Lib.hid (sets_mv' HY.out HBE.out (hTw.2.2.2.2.below ((Below.refl wr.heap.size wr).drew)) (by omega) ek 2 hes)
                have HW := Lib.hid hB
                obtain ⟨⟨q0, q1, q2, q3⟩, -⟩ := box4 hTw.2.2.1
                clear hTw hfa hfb hB hB7 he hdr hj hkc
                go_upto_region 20 with fail
                refine wp_region_noPanic ?_
                refine RegL.wp_region_late [10] (fun (w' : World) => (w'.cell? ⟨h2, 0, none⟩ = some (.int .u64 y) ∧ w'.cell? ⟨h2, 1, none⟩ = some (.int .i64 b) ∧ w'.cell? ⟨h2, 2, none⟩ = some (.int .i64 n') ∧ w'.cell? ⟨h2, 3, none⟩ = some (.pointer p')) ∧ w'.cell? (ad.add j) = some (.string ek)) (by kernel_rfl) ?_
                have hS0 : (fun (w' : World) => (w'.cell? ⟨h2, 0, none⟩ = some (.int .u64 y) ∧ w'.cell? ⟨h2, 1, none⟩ = some (.int .i64 b) ∧ w'.cell? ⟨h2, 2, none⟩ = some (.int .i64 n') ∧ w'.cell? ⟨h2, 3, none⟩ = some (.pointer p')) ∧ w'.cell? (ad.add j) = some (.string ek)) wr.drew := ⟨⟨q0, q1, q2, q3⟩, hk⟩
                clear q0 q1 q2 q3 hk
                show RegL.wpAnyL _ _ _ _ _ _ 11 _ _ _
                refine RegL.wpAnyL_take (i := 0) (oi := ⟨some 66, Op.load 30 (Operand.tmp 8), _, _, _, _⟩) (v := ?vvr201) rfl (by kernel_rfl) (by kernel_rfl) (by kernel_rfl) (by kernel_rfl) (by kernel_rfl) (by kernel_rfl) (fun _ _ _ h => h) (Or.inl ⟨by rfl, ?hyr201⟩) hS0 ?restr201
                case hyr201 => ((intro w hSw; (try dsimp only at hSw); go_simp) <;> with_reducible rfl)
                try simp only [Act.put, List.setIfInBounds_toArray, List.set_cons_zero, List.set_cons_succ]
                refine RegL.wpAnyL_take (i := 1) (oi := ⟨some 67, Op.move (Operand.tmp 13), _, _, _, _⟩) (v := ?vvr202) rfl (by kernel_rfl) (by kernel_rfl) (by kernel_rfl) (by kernel_rfl) (by kernel_rfl) (by kernel_rfl) (fun _ _ _ h => h) (Or.inl ⟨by rfl, ?hyr202⟩) hS0 ?restr202
                case hyr202 => ((intro w hSw; (try dsimp only at hSw); go_simp) <;> with_reducible rfl)
                try simp only [Act.put, List.setIfInBounds_toArray, List.set_cons_zero, List.set_cons_succ]
                refine RegL.wpAnyL_take (i := 2) (oi := ⟨some 68, Op.move (Operand.tmp 13), _, _, _, _⟩) (v := ?vvr203) rfl (by kernel_rfl) (by kernel_rfl) (by kernel_rfl) (by kernel_rfl) (by kernel_rfl) (by kernel_rfl) (fun _ _ _ h => h) (Or.inl ⟨by rfl, ?hyr203⟩) hS0 ?restr203
                case hyr203 => ((intro w hSw; (try dsimp only at hSw); go_simp) <;> with_reducible rfl)
                try simp only [Act.put, List.setIfInBounds_toArray, List.set_cons_zero, List.set_cons_succ]
                refine RegL.wpAnyL_take (i := 5) (oi := ⟨some 71, Op.move (Operand.tmp 14), _, _, _, _⟩) (v := ?vvr204) rfl (by kernel_rfl) (by kernel_rfl) (by kernel_rfl) (by kernel_rfl) (by kernel_rfl) (by kernel_rfl) (fun _ _ _ h => h) (Or.inl ⟨by rfl, ?hyr204⟩) hS0 ?restr204
                case hyr204 => ((intro w hSw; (try dsimp only at hSw); go_simp) <;> with_reducible rfl)
                try simp only [Act.put, List.setIfInBounds_toArray, List.set_cons_zero, List.set_cons_succ]
                refine RegL.wpAnyL_ready (rs := [3]) (by kernel_rfl) (by simp) ?_
                refine RegL.AllReadyL.calm (o := ⟨some 69, Op.call { callee := Callee.builtin Builtin.len, args := #[Operand.tmp 68], argTypes := #[32] }, _, _, _, _⟩) rfl (fun K hK => ?_) RegL.AllReadyL.nil
                go_simp
                refine hK.out _ _ (hS0) (fun hS0x => ?_)
                clear hK K
                try simp only [Act.put, List.setIfInBounds_toArray, List.set_cons_zero, List.set_cons_succ]
                refine RegL.wpAnyL_take (i := 4) (oi := ⟨some 70, Op.binOp BinOp.sub 3 (Operand.tmp 69) (Operand.const (Value.int IntKind.i64 1)) 3, _, _, _, _⟩) (v := ?vvr205) rfl (by kernel_rfl) (by kernel_rfl) (by kernel_rfl) (by kernel_rfl) (by kernel_rfl) (by kernel_rfl) (fun _ _ _ h => h) (Or.inl ⟨by rfl, ?hyr205⟩) hS0x ?restr205
                case hyr205 => ((intro w hSw; (try dsimp only at hSw); go_simp) <;> with_reducible rfl)
                try simp only [Act.put, List.setIfInBounds_toArray, List.set_cons_zero, List.set_cons_succ]
                refine RegL.wpAnyL_take (i := 6) (oi := ⟨some 72, Op.binOp BinOp.sub 3 (Operand.tmp 70) (Operand.tmp 71) 3, _, _, _, _⟩) (v := ?vvr206) rfl (by kernel_rfl) (by kernel_rfl) (by kernel_rfl) (by kernel_rfl) (by kernel_rfl) (by kernel_rfl) (fun _ _ _ h => h) (Or.inl ⟨by rfl, ?hyr206⟩) hS0x ?restr206
                case hyr206 => ((intro w hSw; (try dsimp only at hSw); go_simp) <;> with_reducible rfl)
                try simp only [Act.put, List.setIfInBounds_toArray, List.set_cons_zero, List.set_cons_succ]
                refine RegL.wpAnyL_take (i := 7) (oi := ⟨some 73, Op.indexAddr 32 (Operand.tmp 67) (Operand.tmp 72), _, _, _, _⟩) (v := ?vvr207) rfl (by kernel_rfl) (by kernel_rfl) (by kernel_rfl) (by kernel_rfl) (by kernel_rfl) (by kernel_rfl) (fun _ _ _ h => h) (Or.inl ⟨by rfl, ?hyr207⟩) hS0x ?restr207
                case hyr207 => ((intro w hSw; (try dsimp only at hSw); go_simp) <;> with_reducible rfl)
                try simp only [Act.put, List.setIfInBounds_toArray, List.set_cons_zero, List.set_cons_succ]
                refine RegL.wpAnyL_take (i := 8) (oi := ⟨some 74, Op.load 9 (Operand.tmp 73), _, _, _, _⟩) (v := ?vvr208) rfl (by kernel_rfl) (by kernel_rfl) (by kernel_rfl) (by kernel_rfl) (by kernel_rfl) (by kernel_rfl) (fun _ _ _ h => h) (Or.inl ⟨by rfl, ?hyr208⟩) hS0x ?restr208
                case hyr208 => ((intro w hSw; (try dsimp only at hSw); go_simp) <;> with_reducible rfl)
                try simp only [Act.put, List.setIfInBounds_toArray, List.set_cons_zero, List.set_cons_succ]
                refine RegL.wpAnyL_ready (rs := [9]) (by kernel_rfl) (by simp) ?_
                refine RegL.AllReadyL.calm (o := ⟨some 75, Op.call { callee := Callee.value (Operand.func 25), args := #[Operand.tmp 66, Operand.tmp 74, Operand.const (Value.int IntKind.i64 2)], argTypes := #[30, 9, 3] }, _, _, _, _⟩) rfl (fun K hK => ?_) RegL.AllReadyL.nil
                go_simp
                refine (HST.out).mono ?_
                rintro e w1 ⟨v, rfl, ⟨m', q', rfl, hm⟩, hb1⟩
                have HB1r := Lib.hid hb1; have HB1 := Lib.hid (below_trans (w1 := World.drew wr) (Below.refl _ _).drew hb1); have HTW := Lib.hid (tw2_put2 HT2.out HB1.out hm)
                obtain ⟨⟨e0, e1, e2, e3⟩, f0, f1, f2, f3⟩ := box4 (blk_below HT2.out.2.2.1 HB1.out)
                clear hm hb1
                (try dsimp only)
                refine hK.out _ _ (⟨⟨cell_below hS0x.1.1 HB1r.out, cell_below hS0x.1.2.1 HB1r.out, cell_below hS0x.1.2.2.1 HB1r.out, cell_below hS0x.1.2.2.2 HB1r.out⟩, cell_below hS0x.2 HB1r.out⟩) (fun hS0xx => ?_)
                clear hK K
                try simp only [Act.put, List.setIfInBounds_toArray, List.set_cons_zero, List.set_cons_succ]
                refine RegL.wpAnyL_ready (rs := [10]) (by kernel_rfl) (by simp) ?_
                refine RegL.AllReadyL.late (o := ⟨none, Op.store 30 (Operand.tmp 8) (Operand.tmp 75), _, _, _, _⟩) rfl (by kernel_rfl) (fun K hK => ?_) RegL.AllReadyL.nil
                go_simp
                refine hK.out _ _ ?_
                clear hK K
                try simp only [Act.put, List.setIfInBounds_toArray, List.set_cons_zero, List.set_cons_succ]
                refine RegL.wpAnyL_done (by kernel_rfl) ?_ _
                refine NoPanic.normal ?_
                (go_wp2_with fail)
                go_roundg gk
                case measure => omega
                case rel =>
                  show OsC _ _ _ _ _ _ _ _ _ _ _ _ _ _ _ _ _
                  exact ⟨i + 1, _, _, _, by first | rfl | (push_cast; rfl), by omega, HLM.out, HTW.out, HFA.out, HFB.out, put4_below (below_trans HW.out HB1.out) HL2.out _ _ _ _, slv_put4 (HKV.out.below HB1.out) (fun k => k rfl) _ _ _ _⟩
              · have HT2 := Lib.hid hTw; have HBW := Lib.hid hB; have HB7 := Lib.hid hB7
                have hi1 : L.length - i = 0 := by rw [← HN1.out]; omega
                rw [hi1, List.drop_zero] at hfa
                have HFA := Lib.hid (show ∀ x, lkp L x ≠ none → lkp M x ≠ none from fun x hx => by
                  obtain ⟨e, he, hex⟩ := mem_keys.2 hx
                  rw [← hex]; exact hfa e he)
                have HFB := Lib.hid hfb
                have hMl3 : M.length ≤ 1000 := by omega
                clear hTw hfa hfb hB hB7 hi1
                go_wp2_with fail
                go_loopg [79] N (fun k v79 wr => Aside (OsD c y b W (.slice Ak N1 ck) h1 h2 n p L more N k v79 wr ()))
                case atStart =>
                  show OsD _ _ _ _ _ _ _ _ _ _ _ _ _ _ _ _
                  exact ⟨0, _, _, _, rfl, by omega, hMl3, HT2.out, HFA.out, by simpa using HFB.out, HBW.out, HB7.out⟩
                case round =>
                  obtain ⟨j, n', p', M, rfl, hjN, hMl, hTw, hfa, hfb, hB, hB7⟩ := hrel.out
                  clear hrel HT2 HBW HB7 HFA HFB
                  by_cases hlt4 : j < N
                  · have hltI : (j : Int) < (N : Int) := by omega
                    obtain ⟨x, hx⟩ : ∃ x, more[j]? = some x := ⟨_, List.getElem?_eq_getElem (by rw [← HNE.out]; exact hlt4)⟩
                    obtain ⟨ad, rfl, hkc⟩ := HX.out.at j x hx
                    have hkc := cell_below hkc hB
                    have hxs := HMS.out x (List.mem_of_getElem? hx)
                    obtain ⟨gk, rfl⟩ : ∃ g, gk = g + 1 := ⟨gk - 1, by omega⟩
                    have hdr : more.drop j = x :: more.drop (j + 1) := by
                      obtain ⟨hjl, hje⟩ := List.getElem?_eq_some_iff.1 hx
                      rw [List.drop_eq_getElem_cons hjl, hje]
                    have HT2 := Lib.hid hTw; have HBW := Lib.hid hB; have HB7 := Lib.hid hB7
                    obtain ⟨⟨q0, q1, q2, q3⟩, -⟩ := box4 hTw.2.1
                    have hG := mget_c c _ _ L x (Nat.le_trans hxs (by decide)) wr hTw.2.2.2.1 (by omega)
                    unfold got at hG
                    cases hlx : lkp L x with
                    | some xx =>
                      rw [hlx] at hG
                      have HG := Lib.hid hG
                      have HFA := Lib.hid hfa
                      have HFB := Lib.hid (show ∀ z, lkp M z ≠ none → z ∈ more.drop (j + 1) ∨ lkp L z ≠ none from fun z hz => by
                        rcases hfb z hz with h | h
                        · rw [hdr] at h
                          rcases List.mem_cons.1 h with h | h
                          · right; rw [h, hlx]; simp
                          · exact Or.inl h
                        · exact Or.inr h)
                      clear hTw hfa hfb hB hB7 hdr hx hG hlx
                      simp only [Option.getD_some, Option.isSome_some] at HG
                      go_wp2_with (first
                        | (go_at_call 27; ((with_reducible refine (HG.out).mono ?_); rintro e w8 ⟨v, rfl, rfl, hb⟩; have HT8 := Lib.hid (HT2.out.below hb); have HW8 := Lib.hid (below_trans HBW.out hb); have H78 := Lib.hid (HB7.out.below hb); clear hb))
                        | fail)
                      go_roundg gk
                      case measure => omega
                      case rel =>
                        show OsD _ _ _ _ _ _ _ _ _ _ _ _ _ _ _ _
                        exact ⟨j + 1, _, _, _, by first | rfl | (push_cast; rfl), by omega, hMl, HT8.out, HFA.out, HFB.out, HW8.out, H78.out⟩
                    | none =>
                      rw [hlx] at hG
                      have HG := Lib.hid hG
                      have HFA := Lib.hid (show ∀ z, lkp L z ≠ none → lkp (del M x) z ≠ none from fun z hz => by
                        rw [lkp_del]
                        by_cases hzx : z = x
                        · rw [hzx] at hz; exact absurd hlx hz
                        · rw [if_neg hzx]; exact hfa z hz)
                      have HFB := Lib.hid (show ∀ z, lkp (del M x) z ≠ none → z ∈ more.drop (j + 1) ∨ lkp L z ≠ none from fun z hz => by
                        rw [lkp_del] at hz
                        by_cases hzx : z = x
                        · rw [if_pos hzx] at hz; exact absurd rfl hz
                        · rw [if_neg hzx] at hz
                          rcases hfb z hz with h | h
                          · rw [hdr] at h
                            rcases List.mem_cons.1 h with h | h
                            · exact absurd h hzx
                            · exact Or.inl h
                          · exact Or.inr h)
                      have HLN := Lib.hid (show (del M x).length ≤ 1000 from Nat.le_trans (List.length_filter_le _ _) hMl)
                      have HCT := Lib.hid (fun V' (hV : Below wr.heap.size wr V') => cuts_mv' HY.out HBE.out (HT2.out.2.2.2.2.below hV) hMl x (Nat.le_trans hxs (by decide)) (HT.out.below (below_trans HBW.out hV)))
                      have hh2 := blk_lt hTw.2.2.1
                      have HH2 := Lib.hid hh2
                      clear hTw hfa hfb hB hB7 hdr hx hG hlx hh2
                      simp only [Option.getD_none, Option.isSome_none] at HG
                      go_wp2_with (first
                        | (go_at_call 27; ((with_reducible refine (HG.out).mono ?_); rintro e w8 ⟨v, rfl, rfl, hb⟩; have HT8 := Lib.hid (HT2.out.below hb); have HW8 := Lib.hid (below_trans HBW.out hb); have H78 := Lib.hid (HB7.out.below hb); have H8 := Lib.hid hb; obtain ⟨⟨r0, r1, r2, r3⟩, -⟩ := box4 (blk_below HT2.out.2.2.1 hb); clear hb))
                        | (go_at_call 28; ((with_reducible refine (HCT.out _ H8.out).mono ?_); rintro e w9 ⟨v, rfl, ⟨m', q', rfl, hm⟩, hb1⟩; have HTW := Lib.hid (tw2_put2 HT8.out hb1 hm); have HW9 := Lib.hid (put4_below (below_trans HW8.out hb1) HL2.out (.int .u64 y) (.int .i64 b) (.int .i64 m') (.pointer q')); have H79 := Lib.hid (slv_put4 (H78.out.below hb1) (fun k => k rfl) (.int .u64 y) (.int .i64 b) (.int .i64 m') (.pointer q')); obtain ⟨⟨e0, e1, e2, e3⟩, f0, f1, f2, f3⟩ := box4 (blk_below HT8.out.2.2.1 hb1); clear hm hb1))
                        | fail)
                      go_roundg gk
                      case measure => omega
                      case rel =>
                        show OsD _ _ _ _ _ _ _ _ _ _ _ _ _ _ _ _
                        exact ⟨j + 1, _, _, _, by first | rfl | (push_cast; rfl), by omega, HLN.out, HTW.out, HFA.out, HFB.out, HW9.out, H79.out⟩
                  · have hdr : more.drop j = [] := List.drop_eq_nil_of_le (by have := HNE.out; omega)
                    rw [hdr] at hfb
                    have hke : M.map (·.1) = L.map (·.1) := keys_eq hTw.srt2.1 hTw.srt1.1 fun x => ⟨fun h => (hfb x h).elim (fun h => by cases h) id, hfa x⟩
                    have hle : M.length = N1 := by rw [HN1.out]; simpa using congrArg List.length hke
                    have hks : ksV M = ksV L := ksV_keys hke
                    have hsh : shapeT c 13 M = shapeT c 13 L := shape_keys c 13 _ _ hke
                    have HTW := Lib.hid (HT.out.below hB)
                    have HBW := Lib.hid hB
                    have HLM := Lib.hid (fun V (hV : Below wr.heap.size wr V) => (show Calls Tryd.prog 29 #[.agg #[.int .u64 y, .int .i64 b, .int .i64 n', .pointer p']] V (Ret (fun u _ => u = .int .i64 (N1 : Int)) V) from hle ▸ mlen_c c _ _ M V (hTw.2.2.2.2.below hV)))
                    have HLL := Lib.hid (fun V (hV : Below wr.heap.size wr V) => (show Calls Tryd.prog 29 #[.agg #[.int .u64 y, .int .i64 b, .int .i64 n, .pointer p]] V (Ret (fun u _ => u = .int .i64 (N1 : Int)) V) from HN1.out ▸ mlen_c c _ _ L V (hTw.2.2.2.1.below hV)))
                    have HSM := Lib.hid (fun V (hV : Below wr.heap.size wr V) => (show Calls Tryd.prog 22 #[.agg #[.int .u64 y, .int .i64 b, .int .i64 n', .pointer p']] V (Ret (fun u _ => u = .string (shapeT c 13 L)) V) from hsh ▸ mshape_c c _ _ M V (hTw.2.2.2.2.below hV) (by omega) (HTW.out.below hV)))
                    have HSL := Lib.hid (fun V (hV : Below wr.heap.size wr V) => mshape_c c _ _ L V (hTw.2.2.2.1.below hV) (by omega) (HTW.out.below hV))
                    have HKM := Lib.hid (fun V (hV : Below wr.heap.size wr V) => (show Calls Tryd.prog 26 #[.agg #[.int .u64 y, .int .i64 b, .int .i64 n', .pointer p']] V (Ret (fun u w' => SlV (Fresh V) w' u (ksV L)) V) from hks ▸ keys_c c _ _ M V (hTw.2.2.2.2.below hV) (by omega) (HTW.out.below hV)))
                    have HKS := Lib.hid hB7
                    have HWD := Lib.hid (fun (J : Nat → Prop) (u : Value) V (hV : Below wr.heap.size wr V) (hu : SlV J V u (ksV L)) => words_c J _ u _ L L (by omega) V hu (HKS.out.below hV))
                    simp only [decide_true] at HWD
                    obtain ⟨⟨q0, q1, q2, q3⟩, -⟩ := box4 hTw.2.1
                    obtain ⟨⟨r0, r1, r2, r3⟩, -⟩ := box4 hTw.2.2.1
                    generalize shapeT c 13 L = st at HSM HSL
                    clear hTw hfa hfb hB hB7 hdr hke hle hks hsh
                    go_upto_region 29 with fail
                    go_region_held3 (fun w' => (w'.cell? ⟨h1, 0, none⟩ = some (.int .u64 y) ∧ w'.cell? ⟨h1, 1, none⟩ = some (.int .i64 b) ∧ w'.cell? ⟨h1, 2, none⟩ = some (.int .i64 n) ∧ w'.cell? ⟨h1, 3, none⟩ = some (.pointer p)) ∧ w'.cell? ⟨h2, 0, none⟩ = some (.int .u64 y) ∧ w'.cell? ⟨h2, 1, none⟩ = some (.int .i64 b) ∧ w'.cell? ⟨h2, 2, none⟩ = some (.int .i64 n') ∧ w'.cell? ⟨h2, 3, none⟩ = some (.pointer p'))
                      ((refine ⟨⟨?_, ?_, ?_, ?_⟩, ?_, ?_, ?_, ?_⟩ <;> first | (with_reducible assumption) | (with_reducible exact cell_below q0 (by assumption)) | (with_reducible exact cell_below q1 (by assumption)) | (with_reducible exact cell_below q2 (by assumption)) | (with_reducible exact cell_below q3 (by assumption)) | (with_reducible exact cell_below r0 (by assumption)) | (with_reducible exact cell_below r1 (by assumption)) | (with_reducible exact cell_below r2 (by assumption)) | (with_reducible exact cell_below r3 (by assumption)) | (go_keep; done)))
                      (first
                        | (go_at_call 29; (with_reducible refine (HLM.out _ ((Below.refl _ _).drew)).mono ?_); rintro e u1 ⟨v, rfl, rfl, hk1⟩; have hb1 := below_trans (w1 := World.drew _) (Below.refl _ _).drew hk1)
                        | (go_at_call 29; (with_reducible refine (HLL.out _ hb1).mono ?_); rintro e u2 ⟨v, rfl, rfl, hk2⟩; have hb2 := below_trans hb1 hk2)
                        | (go_at_call 22; (with_reducible refine (HSM.out _ hb2).mono ?_); rintro e u3 ⟨v, rfl, rfl, hk3⟩; have hb3 := below_trans hb2 hk3)
                        | (go_at_call 22; (with_reducible refine (HSL.out _ hb3).mono ?_); rintro e u4 ⟨v, rfl, rfl, hk4⟩; have hb4 := below_trans hb3 hk4)
                        | (go_at_call 26; (with_reducible refine (HKM.out _ hb4).mono ?_); rintro e u5 ⟨v, rfl, hs5, hk5⟩; have hb5 := below_trans hb4 hk5)
                        | (go_at_call 30; (with_reducible refine (HWD.out _ _ _ hb5 hs5).mono ?_); rintro e u6 ⟨v, rfl, rfl, hk6⟩; have hb6 := below_trans hb5 hk6)
                        | fail)
                    have HEND := Lib.hid (below_trans HBW.out hb6)
                    go_wp2_with fail
                    go_returns
                    exact ⟨rfl, HEND.out⟩
end Go.Proofs.YtnegblckbomgdaaDoor.Ht
