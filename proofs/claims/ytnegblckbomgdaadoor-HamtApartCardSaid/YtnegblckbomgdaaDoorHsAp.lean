/- What is set for one key changes nothing of another one, and what a map has does not hang on its hash: the walk. -/
import Derived.Test.YtnegblckbomgdaaDoorHsBP
import Derived.Deep.DeepCutAuto
set_option linter.unusedVariables false
set_option linter.unusedSimpArgs false
namespace Go.Proofs.YtnegblckbomgdaaDoor.Ht
open Go Go.RowKit Go.Shelf Go.Proofs.YtnegblckbomgdaaDoor.Mem Go.Proofs.YtnegblckbomgdaaDoor.PA Go.Proofs.YtnegblckbomgdaaDoorW.PrintWords Go.Proofs.YtnegblckbomgdaaDoor.U64 Go.Proofs.YtnegblckbomgdaaDoor

def ApI (c d : Cf) (y b y' b' : Int) (V : World) (h1 h2 T k : Nat) (v50 : Value) (wr : World) (_u : Unit) : Prop :=
  ∃ (i : Nat) (n : Int) (p : Option Addr) (m : Int) (q : Option Addr) (L : List Pr), v50 = .int .i64 (i : Int) ∧ i + k = T ∧ L.length ≤ i ∧ Twm c d y b y' b' h1 h2 n p m q L wr ∧ Below V.heap.size V wr
def P9 (c d : Cf) (V : World) (h3 h4 : Nat) (y b y' b' : Int) (L : List Pr) (wx : World) : Prop :=
  ∃ n p m q, P3 V h3 h4 y b n p y' b' m q wx ∧ MapV c (fun _ => True) wx (.agg #[.int .u64 y, .int .i64 b, .int .i64 n, .pointer p]) L ∧ MapV d (fun _ => True) wx (.agg #[.int .u64 y', .int .i64 b', .int .i64 m, .pointer q]) L
theorem twm_start (c d : Cf) {y b y' b' : Int} (hy : U c.1 = y) (hb : c.2 = b) (hy' : U d.1 = y') (hb' : d.2 = b') {V w : World} {h1 h2 : Nat} (h : P3 V h1 h2 y b 0 none y' b' 0 none w) : Twm c d y b y' b' h1 h2 0 none 0 none [] w :=
  ⟨h.1, h.2.2.2.1, h.2.2.2.2.1, ⟨none, by rw [← hy, ← hb]; rfl, Or.inl ⟨rfl, rfl⟩, srt_nil, fun e he => by cases he⟩, ⟨none, by rw [← hy', ← hb']; rfl, Or.inl ⟨rfl, rfl⟩, srt_nil, fun e he => by cases he⟩⟩

theorem lkp_doL (L : List Pr) (o : S3) (j : ByteArray) : lkp (doL L (o1 o)) j = if j = o.f0 then (if o.f2 = true then none else some o.f1) else lkp L j := by
  unfold doL o1
  cases o.f2 with
  | true => simp only [if_pos]; rw [lkp_del]
  | false => simp only [Bool.false_eq_true, if_false]; rw [lkp_ins]
theorem got_key (L : List Pr) (o : S3) : ∃ kx ki, got (doL L (o1 o)) o.f0 = .tuple #[.int .i64 kx, .bool ki] ∧ ((o.f2 = true ∧ kx = 0 ∧ ki = false) ∨ (o.f2 = false ∧ kx = o.f1 ∧ ki = true)) := by
  unfold got
  rw [lkp_doL, if_pos rfl]
  cases o.f2 with
  | true => exact ⟨_, _, rfl, Or.inl ⟨rfl, rfl, rfl⟩⟩
  | false => exact ⟨_, _, rfl, Or.inr ⟨rfl, rfl, rfl⟩⟩
theorem toList_ne {a b : ByteArray} (h : ¬ a = b) : ¬ a.toList = b.toList := fun e => h (klt_tri (by unfold klt; rw [e]; exact less_self _) (by unfold klt; rw [e]; exact less_self _))
theorem got_oth (L : List Pr) (o : S3) (j : ByteArray) : ∃ mx mi gx gi, got L j = .tuple #[.int .i64 mx, .bool mi] ∧ got (doL L (o1 o)) j = .tuple #[.int .i64 gx, .bool gi] ∧ (j = o.f0 ∨ (¬ j.toList = o.f0.toList ∧ gx = mx ∧ gi = mi)) := by
  by_cases h : j = o.f0
  · exact ⟨_, _, _, _, rfl, rfl, Or.inl h⟩
  · refine ⟨_, _, _, _, rfl, rfl, Or.inr ⟨toList_ne h, ?_, ?_⟩⟩ <;> rw [lkp_doL, if_neg h]

set_option maxRecDepth 100000 in
set_option maxHeartbeats 16000000 in
theorem apart_in (c d : Cf) (v : Value) (os : List S3) (o : S3) (oth : ByteArray) (W : World) (hT : Tab W) (hO : OpsV W v os) (hl : os.length ≤ 120) (hk : ∀ o ∈ os, o.f0.size ≤ 200) (hko : o.f0.size ≤ 200) (hot : oth.size ≤ 200)
    (hf : ∀ V, Below W.heap.size W V → Calls Tryd.prog 18 #[v] V (Ret (fun u _ => u = .bool true) V))
    (hfo : ∀ V v, OpsV V v [o] → Calls Tryd.prog 18 #[v] V (Ret (fun u _ => u = .bool true) V)) :
    Calls Tryd.prog 6 #[confV c, confV d, v, .agg #[.string o.f0, .int .i64 o.f1, .bool o.f2], .string oth] W (Tru W) := by
  obtain ⟨As, cs, rfl, -⟩ := id hO
  obtain ⟨y, hy⟩ : ∃ y, U c.1 = y := ⟨_, rfl⟩
  obtain ⟨b, hb⟩ : ∃ b, c.2 = b := ⟨_, rfl⟩
  obtain ⟨y', hy'⟩ : ∃ y, U d.1 = y := ⟨_, rfl⟩
  obtain ⟨b', hb'⟩ : ∃ b, d.2 = b := ⟨_, rfl⟩
  have HT := Lib.hid hT; have HO := Lib.hid hO; have HK := Lib.hid hk; have HF := Lib.hid hf; have HFO := Lib.hid hfo; have HY := Lib.hid hy; have HBE := Lib.hid hb; have HY2 := Lib.hid hy'; have HBE2 := Lib.hid hb'; have HKO := Lib.hid hko; have HOT := Lib.hid hot
  have HLV := Lib.hid (fun V hT => live_c V hT)
  have HNA := Lib.hid (fun V => (show Calls Tryd.prog 19 #[.agg #[.int .u64 y, .int .i64 b]] V (Ret (fun v _ => v = .agg #[.int .u64 y, .int .i64 b, .int .i64 0, .pointer none]) V) from new_w y b V))
  have HNB := Lib.hid (fun V => (show Calls Tryd.prog 19 #[.agg #[.int .u64 y', .int .i64 b']] V (Ret (fun v _ => v = .agg #[.int .u64 y', .int .i64 b', .int .i64 0, .pointer none]) V) from new_w y' b' V))
  show Calls Tryd.prog 6 #[.agg #[.int .u64 (U c.1), .int .i64 c.2], .agg #[.int .u64 (U d.1), .int .i64 d.2], .slice As os.length cs, .agg #[.string o.f0, .int .i64 o.f1, .bool o.f2], .string oth] W _
  rw [hy, hb, hy', hb']
  obtain ⟨T, hTe⟩ : ∃ T, T = os.length := ⟨_, rfl⟩
  rw [← hTe] at HO HF hl ⊢
  have HTE := Lib.hid hTe
  have hotI : ¬ (oth.size : Int) > 200 := by omega
  clear hT hO hk hf hfo hTe hy hb hy' hb' hko hot
  have hB0 := (((Below.refl W.heap.size W).alloc (Nat.le_refl _) (.cells #[.int .u64 y, .int .i64 b] CT)).alloc (by simp) (.cells #[.int .u64 y', .int .i64 b'] CT)).alloc (by simp; omega) (.cells #[.string o.f0, .int .i64 o.f1, .bool o.f2] OT)
  have BC := blk_alloc (blk_alloc (blk_new W (.cells #[.int .u64 y, .int .i64 b] CT)) (.cells #[.int .u64 y', .int .i64 b'] CT)) (.cells #[.string o.f0, .int .i64 o.f1, .bool o.f2] OT)
  have BD := blk_alloc (heap_k1 W (.cells #[.int .u64 y, .int .i64 b] CT) (.cells #[.int .u64 y', .int .i64 b'] CT)) (.cells #[.string o.f0, .int .i64 o.f1, .bool o.f2] OT)
  have BO := heap_k2 W (.cells #[.int .u64 y, .int .i64 b] CT) (.cells #[.int .u64 y', .int .i64 b'] CT) (.cells #[.string o.f0, .int .i64 o.f1, .bool o.f2] OT)
  have HB0 := Lib.hid hB0; have HBC := Lib.hid BC; have HBD := Lib.hid BD; have HBO := Lib.hid BO
  clear hB0 BC BD BO
  go_enter Tryd.func6, Tryd.ntmps6
  go_upto_region 3 with (first
    | (go_at_call 17; ((with_reducible refine (HLV.out _ (HT.out.below HB0.out)).mono ?_); rintro e w1 ⟨v, rfl, rfl, hb1⟩; have HE1 := Lib.hid hb1; clear hb1))
    | (go_at_call 18; ((with_reducible refine (HF.out _ (below_trans HB0.out HE1.out)).mono ?_); rintro e w2 ⟨v, rfl, rfl, hb2⟩; have HE2 := Lib.hid (below_trans HE1.out hb2); obtain ⟨⟨x0, x1, x2⟩, -⟩ := box3 (blk_below HBO.out HE2.out); clear hb2))
    | (go_at_call 18; ((with_reducible refine (HFO.out _ _ (one_ops o w2)).mono ?_); rintro e w3 ⟨v, rfl, rfl, hb3⟩; have HE3 := Lib.hid (below_trans HE2.out (below_trans ((Below.refl w2.heap.size w2).alloc (Nat.le_refl _) _) hb3)); clear hb3))
    | fail)
  have HVW := Lib.hid (below_trans HB0.out HE3.out)
  have HCV := Lib.hid (blk_below HBC.out HE3.out); have HDV := Lib.hid (blk_below HBD.out HE3.out); have HOV := Lib.hid (blk_below HBO.out HE3.out)
  clear x0 x1 x2 HB0 HE1 HE2 HE3 HBC HBD HBO HLV HF HFO
  obtain ⟨V, hV⟩ : ∃ V, V = w3 := ⟨_, rfl⟩
  rw [← hV] at HVW HCV HDV HOV ⊢
  clear hV
  obtain ⟨⟨a0, a1⟩, -⟩ := box2 HCV.out
  obtain ⟨⟨d0, d1⟩, -⟩ := box2 HDV.out
  go_cut [11, 12] from 11 (fun s11 s12 wx => ∃ h1 h2 : Nat, s11 = .pointer (some ⟨h1, 0, none⟩) ∧ s12 = .pointer (some ⟨h2, 0, none⟩) ∧ Aside (P3 V h1 h2 y b 0 none y' b' 0 none wx))
  case first =>
      refine wp_region_noPanic ?_
      refine RegL.wp_region_late [6, 7] (fun (w' : World) => (w'.cell? ⟨W.heap.size, 0, none⟩ = some (.int .u64 y) ∧ w'.cell? ⟨W.heap.size, 1, none⟩ = some (.int .i64 b)) ∧ (w'.cell? ⟨W.heap.size + 1, 0, none⟩ = some (.int .u64 y') ∧ w'.cell? ⟨W.heap.size + 1, 1, none⟩ = some (.int .i64 b'))) (by kernel_rfl) ?_
      have hS0 : (fun (w' : World) => (w'.cell? ⟨W.heap.size, 0, none⟩ = some (.int .u64 y) ∧ w'.cell? ⟨W.heap.size, 1, none⟩ = some (.int .i64 b)) ∧ (w'.cell? ⟨W.heap.size + 1, 0, none⟩ = some (.int .u64 y') ∧ w'.cell? ⟨W.heap.size + 1, 1, none⟩ = some (.int .i64 b'))) V.drew := ⟨⟨a0, a1⟩, ⟨d0, d1⟩⟩
      have HV_ := Lib.hid ((Below.refl V.heap.size V).drew)
      have hz_ : V.heap.size ≤ V.drew.heap.size := Nat.le_refl _
      have Z_ := Lib.hid hz_
      clear hz_
      show RegL.wpAnyL _ _ _ _ _ _ 8 _ _ _
      generalize V.drew = V0 at hS0 HV_ Z_ ⊢
      refine RegL.wpAnyL_take (i := 0) (oi := ⟨some 44, Op.load 24 (Operand.tmp 5), _, _, _, _⟩) (v := ?vvr31) rfl (by kernel_rfl) (by kernel_rfl) (by kernel_rfl) (by kernel_rfl) (by kernel_rfl) (by kernel_rfl) (fun _ _ _ h => h) (Or.inl ⟨by rfl, ?hyr31⟩) hS0 ?restr31
      case hyr31 => ((intro w hSw; (try dsimp only at hSw); go_simp) <;> with_reducible rfl)
      try simp only [Act.put, List.setIfInBounds_toArray, List.set_cons_zero, List.set_cons_succ]
      refine RegL.wpAnyL_take (i := 2) (oi := ⟨some 46, Op.load 24 (Operand.tmp 6), _, _, _, _⟩) (v := ?vvr32) rfl (by kernel_rfl) (by kernel_rfl) (by kernel_rfl) (by kernel_rfl) (by kernel_rfl) (by kernel_rfl) (fun _ _ _ h => h) (Or.inl ⟨by rfl, ?hyr32⟩) hS0 ?restr32
      case hyr32 => ((intro w hSw; (try dsimp only at hSw); go_simp) <;> with_reducible rfl)
      try simp only [Act.put, List.setIfInBounds_toArray, List.set_cons_zero, List.set_cons_succ]
      refine RegL.wpAnyL_ready (rs := [1, 4, 5]) (by kernel_rfl) (by simp) ?_
      refine RegL.AllReadyL.calm (o := ⟨some 45, Op.call { callee := Callee.value (Operand.func 19), args := #[Operand.tmp 44], argTypes := #[24] }, _, _, _, _⟩) rfl (fun K hK => ?_) ?_
      · go_simp
        refine (HNA.out _).mono ?_
        rintro e w_1 ⟨v, rfl, rfl, hb⟩
        have HE_1 := Lib.hid hb
        clear hb
        have Z_1 := Lib.hid HE_1.out.size
        have HV_1 := Lib.hid (below_trans HV_.out HE_1.out)
        (try dsimp only)
        refine hK.out _ _ (⟨⟨cell_below hS0.1.1 HE_1.out, cell_below hS0.1.2 HE_1.out⟩, ⟨cell_below hS0.2.1 HE_1.out, cell_below hS0.2.2 HE_1.out⟩⟩) (fun hS0x => ?_)
        clear hK K
        try simp only [Act.put, List.setIfInBounds_toArray, List.set_cons_zero, List.set_cons_succ]
        refine RegL.wpAnyL_ready (rs := [3, 4, 5]) (by kernel_rfl) (by simp) ?_
        refine RegL.AllReadyL.calm (o := ⟨some 47, Op.call { callee := Callee.value (Operand.func 19), args := #[Operand.tmp 46], argTypes := #[24] }, _, _, _, _⟩) rfl (fun K hK => ?_) ?_
        · go_simp
          refine (HNB.out _).mono ?_
          rintro e w_13 ⟨v, rfl, rfl, hb⟩
          have HE_13 := Lib.hid hb
          clear hb
          have Z_13 := Lib.hid HE_13.out.size
          have HV_13 := Lib.hid (below_trans HV_1.out HE_13.out)
          (try dsimp only)
          refine hK.out _ _ (⟨⟨cell_below hS0x.1.1 HE_13.out, cell_below hS0x.1.2 HE_13.out⟩, ⟨cell_below hS0x.2.1 HE_13.out, cell_below hS0x.2.2 HE_13.out⟩⟩) (fun hS0xx => ?_)
          clear hK K
          try simp only [Act.put, List.setIfInBounds_toArray, List.set_cons_zero, List.set_cons_succ]
          refine RegL.wpAnyL_ready (rs := [4, 5]) (by kernel_rfl) (by simp) ?_
          refine RegL.AllReadyL.calm (o := ⟨some 11, Op.alloc 30, _, _, _, _⟩) rfl (fun K hK => ?_) ?_
          · go_simp
            have hb := (Below.refl w_13.heap.size w_13).alloc (Nat.le_refl _) (.cells #[.int .u64 0, .int .i64 0, .int .i64 0, .pointer none] MT)
            have hB := blk_new w_13 (.cells #[.int .u64 0, .int .i64 0, .int .i64 0, .pointer none] MT)
            have hz : (w_13.alloc (.cells #[.int .u64 0, .int .i64 0, .int .i64 0, .pointer none] MT)).heap.size = w_13.heap.size + 1 := by simp
            obtain ⟨h1, hh⟩ : ∃ h, h = w_13.heap.size := ⟨_, rfl⟩
            have Xh1_134 := Lib.hid hh
            rw [← hh] at hB ⊢
            clear hh
            generalize w_13.alloc (.cells #[.int .u64 0, .int .i64 0, .int .i64 0, .pointer none] MT) = w_134 at hb hB hz ⊢
            have HE_134 := Lib.hid hb; have Bh1_134 := Lib.hid hB; have Y_134 := Lib.hid hz
            clear hb hB hz
            have Z_134 := Lib.hid HE_134.out.size
            have HV_134 := Lib.hid (below_trans HV_13.out HE_134.out)
            (try dsimp only)
            refine hK.out _ _ (⟨⟨cell_below hS0xx.1.1 HE_134.out, cell_below hS0xx.1.2 HE_134.out⟩, ⟨cell_below hS0xx.2.1 HE_134.out, cell_below hS0xx.2.2 HE_134.out⟩⟩) (fun hS0xxx => ?_)
            clear hK K
            try simp only [Act.put, List.setIfInBounds_toArray, List.set_cons_zero, List.set_cons_succ]
            refine RegL.wpAnyL_ready (rs := [5]) (by kernel_rfl) (by simp) ?_
            refine RegL.AllReadyL.calm (o := ⟨some 12, Op.alloc 30, _, _, _, _⟩) rfl (fun K hK => ?_) RegL.AllReadyL.nil
            go_simp
            have hb := (Below.refl w_134.heap.size w_134).alloc (Nat.le_refl _) (.cells #[.int .u64 0, .int .i64 0, .int .i64 0, .pointer none] MT)
            have hB := blk_new w_134 (.cells #[.int .u64 0, .int .i64 0, .int .i64 0, .pointer none] MT)
            have hz : (w_134.alloc (.cells #[.int .u64 0, .int .i64 0, .int .i64 0, .pointer none] MT)).heap.size = w_134.heap.size + 1 := by simp
            obtain ⟨h2, hh⟩ : ∃ h, h = w_134.heap.size := ⟨_, rfl⟩
            have Xh2_1345 := Lib.hid hh
            rw [← hh] at hB ⊢
            clear hh
            generalize w_134.alloc (.cells #[.int .u64 0, .int .i64 0, .int .i64 0, .pointer none] MT) = w_1345 at hb hB hz ⊢
            have HE_1345 := Lib.hid hb; have Bh2_1345 := Lib.hid hB; have Y_1345 := Lib.hid hz
            clear hb hB hz
            have Z_1345 := Lib.hid HE_1345.out.size
            have HV_1345 := Lib.hid (below_trans HV_134.out HE_1345.out)
            have Bh1_1345 := Lib.hid (blk_below Bh1_134.out HE_1345.out)
            (try dsimp only)
            refine hK.out _ _ (⟨⟨cell_below hS0xxx.1.1 HE_1345.out, cell_below hS0xxx.1.2 HE_1345.out⟩, ⟨cell_below hS0xxx.2.1 HE_1345.out, cell_below hS0xxx.2.2 HE_1345.out⟩⟩) (fun hS0xxxx => ?_)
            clear hK K
            try simp only [Act.put, List.setIfInBounds_toArray, List.set_cons_zero, List.set_cons_succ]
            refine RegL.wpAnyL_ready (rs := [6]) (by kernel_rfl) (by simp) ?_
            refine RegL.AllReadyL.late (o := ⟨none, Op.store 30 (Operand.tmp 11) (Operand.tmp 45), _, _, _, _⟩) rfl (by kernel_rfl) (fun K hK => ?_) RegL.AllReadyL.nil
            have hne : h1 ≠ h2 := by have z0 := Z_.out; have z_1 := Z_1.out; have z_13 := Z_13.out; have z_134 := Z_134.out; have y_134 := Y_134.out; have x_134 := Xh1_134.out; have z_1345 := Z_1345.out; have y_1345 := Y_1345.out; have x_1345 := Xh2_1345.out; omega
            have hs1 : V.heap.size ≤ h1 := by have z0 := Z_.out; have z_1 := Z_1.out; have z_13 := Z_13.out; have z_134 := Z_134.out; have y_134 := Y_134.out; have x_134 := Xh1_134.out; have z_1345 := Z_1345.out; have y_1345 := Y_1345.out; have x_1345 := Xh2_1345.out; omega
            have hs2 : V.heap.size ≤ h2 := by have z0 := Z_.out; have z_1 := Z_1.out; have z_13 := Z_13.out; have z_134 := Z_134.out; have y_134 := Y_134.out; have x_134 := Xh1_134.out; have z_1345 := Z_1345.out; have y_1345 := Y_1345.out; have x_1345 := Xh2_1345.out; omega
            have HP := Lib.hid (p3_of Bh1_1345.out Bh2_1345.out hne hs1 hs2 HV_1345.out y b 0 none y' b' 0 none)
            have hne2 : h2 ≠ h1 := fun h => hne h.symm
            obtain ⟨⟨e0, e1, e2, e3⟩, f0, f1, f2, f3⟩ := box4 Bh1_1345.out
            obtain ⟨⟨r0, r1, r2, r3⟩, s0, s1, s2, s3⟩ := box4 (put4_far Bh2_1345.out hne2 (.int .u64 y) (.int .i64 b) (.int .i64 0) (.pointer none))
            go_simp
            refine hK.out _ _ ?_
            clear hK K
            try simp only [Act.put, List.setIfInBounds_toArray, List.set_cons_zero, List.set_cons_succ]
            refine RegL.wpAnyL_ready (rs := [7]) (by kernel_rfl) (by simp) ?_
            refine RegL.AllReadyL.late (o := ⟨none, Op.store 30 (Operand.tmp 12) (Operand.tmp 47), _, _, _, _⟩) rfl (by kernel_rfl) (fun K hK => ?_) RegL.AllReadyL.nil
            go_simp
            refine hK.out _ _ ?_
            clear hK K
            try simp only [Act.put, List.setIfInBounds_toArray, List.set_cons_zero, List.set_cons_succ]
            refine RegL.wpAnyL_done (by kernel_rfl) ?_ _
            refine NoPanic.normal ?_
            (go_wp2_with fail)
            go_meet
            exact ⟨_, _, rfl, rfl, HP⟩
          refine RegL.AllReadyL.calm (o := ⟨some 12, Op.alloc 30, _, _, _, _⟩) rfl (fun K hK => ?_) RegL.AllReadyL.nil
          go_simp
          have hb := (Below.refl w_13.heap.size w_13).alloc (Nat.le_refl _) (.cells #[.int .u64 0, .int .i64 0, .int .i64 0, .pointer none] MT)
          have hB := blk_new w_13 (.cells #[.int .u64 0, .int .i64 0, .int .i64 0, .pointer none] MT)
          have hz : (w_13.alloc (.cells #[.int .u64 0, .int .i64 0, .int .i64 0, .pointer none] MT)).heap.size = w_13.heap.size + 1 := by simp
          obtain ⟨h2, hh⟩ : ∃ h, h = w_13.heap.size := ⟨_, rfl⟩
          have Xh2_135 := Lib.hid hh
          rw [← hh] at hB ⊢
          clear hh
          generalize w_13.alloc (.cells #[.int .u64 0, .int .i64 0, .int .i64 0, .pointer none] MT) = w_135 at hb hB hz ⊢
          have HE_135 := Lib.hid hb; have Bh2_135 := Lib.hid hB; have Y_135 := Lib.hid hz
          clear hb hB hz
          have Z_135 := Lib.hid HE_135.out.size
          have HV_135 := Lib.hid (below_trans HV_13.out HE_135.out)
          (try dsimp only)
          refine hK.out _ _ (⟨⟨cell_below hS0xx.1.1 HE_135.out, cell_below hS0xx.1.2 HE_135.out⟩, ⟨cell_below hS0xx.2.1 HE_135.out, cell_below hS0xx.2.2 HE_135.out⟩⟩) (fun hS0xxx => ?_)
          clear hK K
          try simp only [Act.put, List.setIfInBounds_toArray, List.set_cons_zero, List.set_cons_succ]
          refine RegL.wpAnyL_ready (rs := [4]) (by kernel_rfl) (by simp) ?_
          refine RegL.AllReadyL.calm (o := ⟨some 11, Op.alloc 30, _, _, _, _⟩) rfl (fun K hK => ?_) RegL.AllReadyL.nil
          go_simp
          have hb := (Below.refl w_135.heap.size w_135).alloc (Nat.le_refl _) (.cells #[.int .u64 0, .int .i64 0, .int .i64 0, .pointer none] MT)
          have hB := blk_new w_135 (.cells #[.int .u64 0, .int .i64 0, .int .i64 0, .pointer none] MT)
          have hz : (w_135.alloc (.cells #[.int .u64 0, .int .i64 0, .int .i64 0, .pointer none] MT)).heap.size = w_135.heap.size + 1 := by simp
          obtain ⟨h1, hh⟩ : ∃ h, h = w_135.heap.size := ⟨_, rfl⟩
          have Xh1_1354 := Lib.hid hh
          rw [← hh] at hB ⊢
          clear hh
          generalize w_135.alloc (.cells #[.int .u64 0, .int .i64 0, .int .i64 0, .pointer none] MT) = w_1354 at hb hB hz ⊢
          have HE_1354 := Lib.hid hb; have Bh1_1354 := Lib.hid hB; have Y_1354 := Lib.hid hz
          clear hb hB hz
          have Z_1354 := Lib.hid HE_1354.out.size
          have HV_1354 := Lib.hid (below_trans HV_135.out HE_1354.out)
          have Bh2_1354 := Lib.hid (blk_below Bh2_135.out HE_1354.out)
          (try dsimp only)
          refine hK.out _ _ (⟨⟨cell_below hS0xxx.1.1 HE_1354.out, cell_below hS0xxx.1.2 HE_1354.out⟩, ⟨cell_below hS0xxx.2.1 HE_1354.out, cell_below hS0xxx.2.2 HE_1354.out⟩⟩) (fun hS0xxxx => ?_)
          clear hK K
          try simp only [Act.put, List.setIfInBounds_toArray, List.set_cons_zero, List.set_cons_succ]
          refine RegL.wpAnyL_ready (rs := [6]) (by kernel_rfl) (by simp) ?_
          refine RegL.AllReadyL.late (o := ⟨none, Op.store 30 (Operand.tmp 11) (Operand.tmp 45), _, _, _, _⟩) rfl (by kernel_rfl) (fun K hK => ?_) RegL.AllReadyL.nil
          have hne : h1 ≠ h2 := by have z0 := Z_.out; have z_1 := Z_1.out; have z_13 := Z_13.out; have z_135 := Z_135.out; have y_135 := Y_135.out; have x_135 := Xh2_135.out; have z_1354 := Z_1354.out; have y_1354 := Y_1354.out; have x_1354 := Xh1_1354.out; omega
          have hs1 : V.heap.size ≤ h1 := by have z0 := Z_.out; have z_1 := Z_1.out; have z_13 := Z_13.out; have z_135 := Z_135.out; have y_135 := Y_135.out; have x_135 := Xh2_135.out; have z_1354 := Z_1354.out; have y_1354 := Y_1354.out; have x_1354 := Xh1_1354.out; omega
          have hs2 : V.heap.size ≤ h2 := by have z0 := Z_.out; have z_1 := Z_1.out; have z_13 := Z_13.out; have z_135 := Z_135.out; have y_135 := Y_135.out; have x_135 := Xh2_135.out; have z_1354 := Z_1354.out; have y_1354 := Y_1354.out; have x_1354 := Xh1_1354.out; omega
          have HP := Lib.hid (p3_of Bh1_1354.out Bh2_1354.out hne hs1 hs2 HV_1354.out y b 0 none y' b' 0 none)
          have hne2 : h2 ≠ h1 := fun h => hne h.symm
          obtain ⟨⟨e0, e1, e2, e3⟩, f0, f1, f2, f3⟩ := box4 Bh1_1354.out
          obtain ⟨⟨r0, r1, r2, r3⟩, s0, s1, s2, s3⟩ := box4 (put4_far Bh2_1354.out hne2 (.int .u64 y) (.int .i64 b) (.int .i64 0) (.pointer none))
          go_simp
          refine hK.out _ _ ?_
          clear hK K
          try simp only [Act.put, List.setIfInBounds_toArray, List.set_cons_zero, List.set_cons_succ]
          refine RegL.wpAnyL_ready (rs := [7]) (by kernel_rfl) (by simp) ?_
          refine RegL.AllReadyL.late (o := ⟨none, Op.store 30 (Operand.tmp 12) (Operand.tmp 47), _, _, _, _⟩) rfl (by kernel_rfl) (fun K hK => ?_) RegL.AllReadyL.nil
          go_simp
          refine hK.out _ _ ?_
          clear hK K
          try simp only [Act.put, List.setIfInBounds_toArray, List.set_cons_zero, List.set_cons_succ]
          refine RegL.wpAnyL_done (by kernel_rfl) ?_ _
          refine NoPanic.normal ?_
          (go_wp2_with fail)
          go_meet
          exact ⟨_, _, rfl, rfl, HP⟩
        refine RegL.AllReadyL.calm (o := ⟨some 11, Op.alloc 30, _, _, _, _⟩) rfl (fun K hK => ?_) ?_
        · go_simp
          have hb := (Below.refl w_1.heap.size w_1).alloc (Nat.le_refl _) (.cells #[.int .u64 0, .int .i64 0, .int .i64 0, .pointer none] MT)
          have hB := blk_new w_1 (.cells #[.int .u64 0, .int .i64 0, .int .i64 0, .pointer none] MT)
          have hz : (w_1.alloc (.cells #[.int .u64 0, .int .i64 0, .int .i64 0, .pointer none] MT)).heap.size = w_1.heap.size + 1 := by simp
          obtain ⟨h1, hh⟩ : ∃ h, h = w_1.heap.size := ⟨_, rfl⟩
          have Xh1_14 := Lib.hid hh
          rw [← hh] at hB ⊢
          clear hh
          generalize w_1.alloc (.cells #[.int .u64 0, .int .i64 0, .int .i64 0, .pointer none] MT) = w_14 at hb hB hz ⊢
          have HE_14 := Lib.hid hb; have Bh1_14 := Lib.hid hB; have Y_14 := Lib.hid hz
          clear hb hB hz
          have Z_14 := Lib.hid HE_14.out.size
          have HV_14 := Lib.hid (below_trans HV_1.out HE_14.out)
          (try dsimp only)
          refine hK.out _ _ (⟨⟨cell_below hS0x.1.1 HE_14.out, cell_below hS0x.1.2 HE_14.out⟩, ⟨cell_below hS0x.2.1 HE_14.out, cell_below hS0x.2.2 HE_14.out⟩⟩) (fun hS0xx => ?_)
          clear hK K
          try simp only [Act.put, List.setIfInBounds_toArray, List.set_cons_zero, List.set_cons_succ]
          refine RegL.wpAnyL_ready (rs := [3, 5]) (by kernel_rfl) (by simp) ?_
          refine RegL.AllReadyL.calm (o := ⟨some 47, Op.call { callee := Callee.value (Operand.func 19), args := #[Operand.tmp 46], argTypes := #[24] }, _, _, _, _⟩) rfl (fun K hK => ?_) ?_
          · go_simp
            refine (HNB.out _).mono ?_
            rintro e w_143 ⟨v, rfl, rfl, hb⟩
            have HE_143 := Lib.hid hb
            clear hb
            have Z_143 := Lib.hid HE_143.out.size
            have HV_143 := Lib.hid (below_trans HV_14.out HE_143.out)
            have Bh1_143 := Lib.hid (blk_below Bh1_14.out HE_143.out)
            (try dsimp only)
            refine hK.out _ _ (⟨⟨cell_below hS0xx.1.1 HE_143.out, cell_below hS0xx.1.2 HE_143.out⟩, ⟨cell_below hS0xx.2.1 HE_143.out, cell_below hS0xx.2.2 HE_143.out⟩⟩) (fun hS0xxx => ?_)
            clear hK K
            try simp only [Act.put, List.setIfInBounds_toArray, List.set_cons_zero, List.set_cons_succ]
            refine RegL.wpAnyL_ready (rs := [5]) (by kernel_rfl) (by simp) ?_
            refine RegL.AllReadyL.calm (o := ⟨some 12, Op.alloc 30, _, _, _, _⟩) rfl (fun K hK => ?_) RegL.AllReadyL.nil
            go_simp
            have hb := (Below.refl w_143.heap.size w_143).alloc (Nat.le_refl _) (.cells #[.int .u64 0, .int .i64 0, .int .i64 0, .pointer none] MT)
            have hB := blk_new w_143 (.cells #[.int .u64 0, .int .i64 0, .int .i64 0, .pointer none] MT)
            have hz : (w_143.alloc (.cells #[.int .u64 0, .int .i64 0, .int .i64 0, .pointer none] MT)).heap.size = w_143.heap.size + 1 := by simp
            obtain ⟨h2, hh⟩ : ∃ h, h = w_143.heap.size := ⟨_, rfl⟩
            have Xh2_1435 := Lib.hid hh
            rw [← hh] at hB ⊢
            clear hh
            generalize w_143.alloc (.cells #[.int .u64 0, .int .i64 0, .int .i64 0, .pointer none] MT) = w_1435 at hb hB hz ⊢
            have HE_1435 := Lib.hid hb; have Bh2_1435 := Lib.hid hB; have Y_1435 := Lib.hid hz
            clear hb hB hz
            have Z_1435 := Lib.hid HE_1435.out.size
            have HV_1435 := Lib.hid (below_trans HV_143.out HE_1435.out)
            have Bh1_1435 := Lib.hid (blk_below Bh1_143.out HE_1435.out)
            (try dsimp only)
            refine hK.out _ _ (⟨⟨cell_below hS0xxx.1.1 HE_1435.out, cell_below hS0xxx.1.2 HE_1435.out⟩, ⟨cell_below hS0xxx.2.1 HE_1435.out, cell_below hS0xxx.2.2 HE_1435.out⟩⟩) (fun hS0xxxx => ?_)
            clear hK K
            try simp only [Act.put, List.setIfInBounds_toArray, List.set_cons_zero, List.set_cons_succ]
            refine RegL.wpAnyL_ready (rs := [6]) (by kernel_rfl) (by simp) ?_
            refine RegL.AllReadyL.late (o := ⟨none, Op.store 30 (Operand.tmp 11) (Operand.tmp 45), _, _, _, _⟩) rfl (by kernel_rfl) (fun K hK => ?_) RegL.AllReadyL.nil
            have hne : h1 ≠ h2 := by have z0 := Z_.out; have z_1 := Z_1.out; have z_14 := Z_14.out; have y_14 := Y_14.out; have x_14 := Xh1_14.out; have z_143 := Z_143.out; have z_1435 := Z_1435.out; have y_1435 := Y_1435.out; have x_1435 := Xh2_1435.out; omega
            have hs1 : V.heap.size ≤ h1 := by have z0 := Z_.out; have z_1 := Z_1.out; have z_14 := Z_14.out; have y_14 := Y_14.out; have x_14 := Xh1_14.out; have z_143 := Z_143.out; have z_1435 := Z_1435.out; have y_1435 := Y_1435.out; have x_1435 := Xh2_1435.out; omega
            have hs2 : V.heap.size ≤ h2 := by have z0 := Z_.out; have z_1 := Z_1.out; have z_14 := Z_14.out; have y_14 := Y_14.out; have x_14 := Xh1_14.out; have z_143 := Z_143.out; have z_1435 := Z_1435.out; have y_1435 := Y_1435.out; have x_1435 := Xh2_1435.out; omega
            have HP := Lib.hid (p3_of Bh1_1435.out Bh2_1435.out hne hs1 hs2 HV_1435.out y b 0 none y' b' 0 none)
            have hne2 : h2 ≠ h1 := fun h => hne h.symm
            obtain ⟨⟨e0, e1, e2, e3⟩, f0, f1, f2, f3⟩ := box4 Bh1_1435.out
            obtain ⟨⟨r0, r1, r2, r3⟩, s0, s1, s2, s3⟩ := box4 (put4_far Bh2_1435.out hne2 (.int .u64 y) (.int .i64 b) (.int .i64 0) (.pointer none))
            go_simp
            refine hK.out _ _ ?_
            clear hK K
            try simp only [Act.put, List.setIfInBounds_toArray, List.set_cons_zero, List.set_cons_succ]
            refine RegL.wpAnyL_ready (rs := [7]) (by kernel_rfl) (by simp) ?_
            refine RegL.AllReadyL.late (o := ⟨none, Op.store 30 (Operand.tmp 12) (Operand.tmp 47), _, _, _, _⟩) rfl (by kernel_rfl) (fun K hK => ?_) RegL.AllReadyL.nil
            go_simp
            refine hK.out _ _ ?_
            clear hK K
            try simp only [Act.put, List.setIfInBounds_toArray, List.set_cons_zero, List.set_cons_succ]
            refine RegL.wpAnyL_done (by kernel_rfl) ?_ _
            refine NoPanic.normal ?_
            (go_wp2_with fail)
            go_meet
            exact ⟨_, _, rfl, rfl, HP⟩
          refine RegL.AllReadyL.calm (o := ⟨some 12, Op.alloc 30, _, _, _, _⟩) rfl (fun K hK => ?_) RegL.AllReadyL.nil
          go_simp
          have hb := (Below.refl w_14.heap.size w_14).alloc (Nat.le_refl _) (.cells #[.int .u64 0, .int .i64 0, .int .i64 0, .pointer none] MT)
          have hB := blk_new w_14 (.cells #[.int .u64 0, .int .i64 0, .int .i64 0, .pointer none] MT)
          have hz : (w_14.alloc (.cells #[.int .u64 0, .int .i64 0, .int .i64 0, .pointer none] MT)).heap.size = w_14.heap.size + 1 := by simp
          obtain ⟨h2, hh⟩ : ∃ h, h = w_14.heap.size := ⟨_, rfl⟩
          have Xh2_145 := Lib.hid hh
          rw [← hh] at hB ⊢
          clear hh
          generalize w_14.alloc (.cells #[.int .u64 0, .int .i64 0, .int .i64 0, .pointer none] MT) = w_145 at hb hB hz ⊢
          have HE_145 := Lib.hid hb; have Bh2_145 := Lib.hid hB; have Y_145 := Lib.hid hz
          clear hb hB hz
          have Z_145 := Lib.hid HE_145.out.size
          have HV_145 := Lib.hid (below_trans HV_14.out HE_145.out)
          have Bh1_145 := Lib.hid (blk_below Bh1_14.out HE_145.out)
          (try dsimp only)
          refine hK.out _ _ (⟨⟨cell_below hS0xx.1.1 HE_145.out, cell_below hS0xx.1.2 HE_145.out⟩, ⟨cell_below hS0xx.2.1 HE_145.out, cell_below hS0xx.2.2 HE_145.out⟩⟩) (fun hS0xxx => ?_)
          clear hK K
          try simp only [Act.put, List.setIfInBounds_toArray, List.set_cons_zero, List.set_cons_succ]
          refine RegL.wpAnyL_ready (rs := [3]) (by kernel_rfl) (by simp) ?_
          refine RegL.AllReadyL.calm (o := ⟨some 47, Op.call { callee := Callee.value (Operand.func 19), args := #[Operand.tmp 46], argTypes := #[24] }, _, _, _, _⟩) rfl (fun K hK => ?_) RegL.AllReadyL.nil
          go_simp
          refine (HNB.out _).mono ?_
          rintro e w_1453 ⟨v, rfl, rfl, hb⟩
          have HE_1453 := Lib.hid hb
          clear hb
          have Z_1453 := Lib.hid HE_1453.out.size
          have HV_1453 := Lib.hid (below_trans HV_145.out HE_1453.out)
          have Bh1_1453 := Lib.hid (blk_below Bh1_145.out HE_1453.out)
          have Bh2_1453 := Lib.hid (blk_below Bh2_145.out HE_1453.out)
          (try dsimp only)
          refine hK.out _ _ (⟨⟨cell_below hS0xxx.1.1 HE_1453.out, cell_below hS0xxx.1.2 HE_1453.out⟩, ⟨cell_below hS0xxx.2.1 HE_1453.out, cell_below hS0xxx.2.2 HE_1453.out⟩⟩) (fun hS0xxxx => ?_)
          clear hK K
          try simp only [Act.put, List.setIfInBounds_toArray, List.set_cons_zero, List.set_cons_succ]
          refine RegL.wpAnyL_ready (rs := [6]) (by kernel_rfl) (by simp) ?_
          refine RegL.AllReadyL.late (o := ⟨none, Op.store 30 (Operand.tmp 11) (Operand.tmp 45), _, _, _, _⟩) rfl (by kernel_rfl) (fun K hK => ?_) RegL.AllReadyL.nil
          have hne : h1 ≠ h2 := by have z0 := Z_.out; have z_1 := Z_1.out; have z_14 := Z_14.out; have y_14 := Y_14.out; have x_14 := Xh1_14.out; have z_145 := Z_145.out; have y_145 := Y_145.out; have x_145 := Xh2_145.out; have z_1453 := Z_1453.out; omega
          have hs1 : V.heap.size ≤ h1 := by have z0 := Z_.out; have z_1 := Z_1.out; have z_14 := Z_14.out; have y_14 := Y_14.out; have x_14 := Xh1_14.out; have z_145 := Z_145.out; have y_145 := Y_145.out; have x_145 := Xh2_145.out; have z_1453 := Z_1453.out; omega
          have hs2 : V.heap.size ≤ h2 := by have z0 := Z_.out; have z_1 := Z_1.out; have z_14 := Z_14.out; have y_14 := Y_14.out; have x_14 := Xh1_14.out; have z_145 := Z_145.out; have y_145 := Y_145.out; have x_145 := Xh2_145.out; have z_1453 := Z_1453.out; omega
          have HP := Lib.hid (p3_of Bh1_1453.out Bh2_1453.out hne hs1 hs2 HV_1453.out y b 0 none y' b' 0 none)
          have hne2 : h2 ≠ h1 := fun h => hne h.symm
          obtain ⟨⟨e0, e1, e2, e3⟩, f0, f1, f2, f3⟩ := box4 Bh1_1453.out
          obtain ⟨⟨r0, r1, r2, r3⟩, s0, s1, s2, s3⟩ := box4 (put4_far Bh2_1453.out hne2 (.int .u64 y) (.int .i64 b) (.int .i64 0) (.pointer none))
          go_simp
          refine hK.out _ _ ?_
          clear hK K
          try simp only [Act.put, List.setIfInBounds_toArray, List.set_cons_zero, List.set_cons_succ]
          refine RegL.wpAnyL_ready (rs := [7]) (by kernel_rfl) (by simp) ?_
          refine RegL.AllReadyL.late (o := ⟨none, Op.store 30 (Operand.tmp 12) (Operand.tmp 47), _, _, _, _⟩) rfl (by kernel_rfl) (fun K hK => ?_) RegL.AllReadyL.nil
          go_simp
          refine hK.out _ _ ?_
          clear hK K
          try simp only [Act.put, List.setIfInBounds_toArray, List.set_cons_zero, List.set_cons_succ]
          refine RegL.wpAnyL_done (by kernel_rfl) ?_ _
          refine NoPanic.normal ?_
          (go_wp2_with fail)
          go_meet
          exact ⟨_, _, rfl, rfl, HP⟩
        refine RegL.AllReadyL.calm (o := ⟨some 12, Op.alloc 30, _, _, _, _⟩) rfl (fun K hK => ?_) RegL.AllReadyL.nil
        go_simp
        have hb := (Below.refl w_1.heap.size w_1).alloc (Nat.le_refl _) (.cells #[.int .u64 0, .int .i64 0, .int .i64 0, .pointer none] MT)
        have hB := blk_new w_1 (.cells #[.int .u64 0, .int .i64 0, .int .i64 0, .pointer none] MT)
        have hz : (w_1.alloc (.cells #[.int .u64 0, .int .i64 0, .int .i64 0, .pointer none] MT)).heap.size = w_1.heap.size + 1 := by simp
        obtain ⟨h2, hh⟩ : ∃ h, h = w_1.heap.size := ⟨_, rfl⟩
        have Xh2_15 := Lib.hid hh
        rw [← hh] at hB ⊢
        clear hh
        generalize w_1.alloc (.cells #[.int .u64 0, .int .i64 0, .int .i64 0, .pointer none] MT) = w_15 at hb hB hz ⊢
        have HE_15 := Lib.hid hb; have Bh2_15 := Lib.hid hB; have Y_15 := Lib.hid hz
        clear hb hB hz
        have Z_15 := Lib.hid HE_15.out.size
        have HV_15 := Lib.hid (below_trans HV_1.out HE_15.out)
        (try dsimp only)
        refine hK.out _ _ (⟨⟨cell_below hS0x.1.1 HE_15.out, cell_below hS0x.1.2 HE_15.out⟩, ⟨cell_below hS0x.2.1 HE_15.out, cell_below hS0x.2.2 HE_15.out⟩⟩) (fun hS0xx => ?_)
        clear hK K
        try simp only [Act.put, List.setIfInBounds_toArray, List.set_cons_zero, List.set_cons_succ]
        refine RegL.wpAnyL_ready (rs := [3, 4]) (by kernel_rfl) (by simp) ?_
        refine RegL.AllReadyL.calm (o := ⟨some 47, Op.call { callee := Callee.value (Operand.func 19), args := #[Operand.tmp 46], argTypes := #[24] }, _, _, _, _⟩) rfl (fun K hK => ?_) ?_
        · go_simp
          refine (HNB.out _).mono ?_
          rintro e w_153 ⟨v, rfl, rfl, hb⟩
          have HE_153 := Lib.hid hb
          clear hb
          have Z_153 := Lib.hid HE_153.out.size
          have HV_153 := Lib.hid (below_trans HV_15.out HE_153.out)
          have Bh2_153 := Lib.hid (blk_below Bh2_15.out HE_153.out)
          (try dsimp only)
          refine hK.out _ _ (⟨⟨cell_below hS0xx.1.1 HE_153.out, cell_below hS0xx.1.2 HE_153.out⟩, ⟨cell_below hS0xx.2.1 HE_153.out, cell_below hS0xx.2.2 HE_153.out⟩⟩) (fun hS0xxx => ?_)
          clear hK K
          try simp only [Act.put, List.setIfInBounds_toArray, List.set_cons_zero, List.set_cons_succ]
          refine RegL.wpAnyL_ready (rs := [4]) (by kernel_rfl) (by simp) ?_
          refine RegL.AllReadyL.calm (o := ⟨some 11, Op.alloc 30, _, _, _, _⟩) rfl (fun K hK => ?_) RegL.AllReadyL.nil
          go_simp
          have hb := (Below.refl w_153.heap.size w_153).alloc (Nat.le_refl _) (.cells #[.int .u64 0, .int .i64 0, .int .i64 0, .pointer none] MT)
          have hB := blk_new w_153 (.cells #[.int .u64 0, .int .i64 0, .int .i64 0, .pointer none] MT)
          have hz : (w_153.alloc (.cells #[.int .u64 0, .int .i64 0, .int .i64 0, .pointer none] MT)).heap.size = w_153.heap.size + 1 := by simp
          obtain ⟨h1, hh⟩ : ∃ h, h = w_153.heap.size := ⟨_, rfl⟩
          have Xh1_1534 := Lib.hid hh
          rw [← hh] at hB ⊢
          clear hh
          generalize w_153.alloc (.cells #[.int .u64 0, .int .i64 0, .int .i64 0, .pointer none] MT) = w_1534 at hb hB hz ⊢
          have HE_1534 := Lib.hid hb; have Bh1_1534 := Lib.hid hB; have Y_1534 := Lib.hid hz
          clear hb hB hz
          have Z_1534 := Lib.hid HE_1534.out.size
          have HV_1534 := Lib.hid (below_trans HV_153.out HE_1534.out)
          have Bh2_1534 := Lib.hid (blk_below Bh2_153.out HE_1534.out)
          (try dsimp only)
          refine hK.out _ _ (⟨⟨cell_below hS0xxx.1.1 HE_1534.out, cell_below hS0xxx.1.2 HE_1534.out⟩, ⟨cell_below hS0xxx.2.1 HE_1534.out, cell_below hS0xxx.2.2 HE_1534.out⟩⟩) (fun hS0xxxx => ?_)
          clear hK K
          try simp only [Act.put, List.setIfInBounds_toArray, List.set_cons_zero, List.set_cons_succ]
          refine RegL.wpAnyL_ready (rs := [6]) (by kernel_rfl) (by simp) ?_
          refine RegL.AllReadyL.late (o := ⟨none, Op.store 30 (Operand.tmp 11) (Operand.tmp 45), _, _, _, _⟩) rfl (by kernel_rfl) (fun K hK => ?_) RegL.AllReadyL.nil
          have hne : h1 ≠ h2 := by have z0 := Z_.out; have z_1 := Z_1.out; have z_15 := Z_15.out; have y_15 := Y_15.out; have x_15 := Xh2_15.out; have z_153 := Z_153.out; have z_1534 := Z_1534.out; have y_1534 := Y_1534.out; have x_1534 := Xh1_1534.out; omega
          have hs1 : V.heap.size ≤ h1 := by have z0 := Z_.out; have z_1 := Z_1.out; have z_15 := Z_15.out; have y_15 := Y_15.out; have x_15 := Xh2_15.out; have z_153 := Z_153.out; have z_1534 := Z_1534.out; have y_1534 := Y_1534.out; have x_1534 := Xh1_1534.out; omega
          have hs2 : V.heap.size ≤ h2 := by have z0 := Z_.out; have z_1 := Z_1.out; have z_15 := Z_15.out; have y_15 := Y_15.out; have x_15 := Xh2_15.out; have z_153 := Z_153.out; have z_1534 := Z_1534.out; have y_1534 := Y_1534.out; have x_1534 := Xh1_1534.out; omega
          have HP := Lib.hid (p3_of Bh1_1534.out Bh2_1534.out hne hs1 hs2 HV_1534.out y b 0 none y' b' 0 none)
          have hne2 : h2 ≠ h1 := fun h => hne h.symm
          obtain ⟨⟨e0, e1, e2, e3⟩, f0, f1, f2, f3⟩ := box4 Bh1_1534.out
          obtain ⟨⟨r0, r1, r2, r3⟩, s0, s1, s2, s3⟩ := box4 (put4_far Bh2_1534.out hne2 (.int .u64 y) (.int .i64 b) (.int .i64 0) (.pointer none))
          go_simp
          refine hK.out _ _ ?_
          clear hK K
          try simp only [Act.put, List.setIfInBounds_toArray, List.set_cons_zero, List.set_cons_succ]
          refine RegL.wpAnyL_ready (rs := [7]) (by kernel_rfl) (by simp) ?_
          refine RegL.AllReadyL.late (o := ⟨none, Op.store 30 (Operand.tmp 12) (Operand.tmp 47), _, _, _, _⟩) rfl (by kernel_rfl) (fun K hK => ?_) RegL.AllReadyL.nil
          go_simp
          refine hK.out _ _ ?_
          clear hK K
          try simp only [Act.put, List.setIfInBounds_toArray, List.set_cons_zero, List.set_cons_succ]
          refine RegL.wpAnyL_done (by kernel_rfl) ?_ _
          refine NoPanic.normal ?_
          (go_wp2_with fail)
          go_meet
          exact ⟨_, _, rfl, rfl, HP⟩
        refine RegL.AllReadyL.calm (o := ⟨some 11, Op.alloc 30, _, _, _, _⟩) rfl (fun K hK => ?_) RegL.AllReadyL.nil
        go_simp
        have hb := (Below.refl w_15.heap.size w_15).alloc (Nat.le_refl _) (.cells #[.int .u64 0, .int .i64 0, .int .i64 0, .pointer none] MT)
        have hB := blk_new w_15 (.cells #[.int .u64 0, .int .i64 0, .int .i64 0, .pointer none] MT)
        have hz : (w_15.alloc (.cells #[.int .u64 0, .int .i64 0, .int .i64 0, .pointer none] MT)).heap.size = w_15.heap.size + 1 := by simp
        obtain ⟨h1, hh⟩ : ∃ h, h = w_15.heap.size := ⟨_, rfl⟩
        have Xh1_154 := Lib.hid hh
        rw [← hh] at hB ⊢
        clear hh
        generalize w_15.alloc (.cells #[.int .u64 0, .int .i64 0, .int .i64 0, .pointer none] MT) = w_154 at hb hB hz ⊢
        have HE_154 := Lib.hid hb; have Bh1_154 := Lib.hid hB; have Y_154 := Lib.hid hz
        clear hb hB hz
        have Z_154 := Lib.hid HE_154.out.size
        have HV_154 := Lib.hid (below_trans HV_15.out HE_154.out)
        have Bh2_154 := Lib.hid (blk_below Bh2_15.out HE_154.out)
        (try dsimp only)
        refine hK.out _ _ (⟨⟨cell_below hS0xx.1.1 HE_154.out, cell_below hS0xx.1.2 HE_154.out⟩, ⟨cell_below hS0xx.2.1 HE_154.out, cell_below hS0xx.2.2 HE_154.out⟩⟩) (fun hS0xxx => ?_)
        clear hK K
        try simp only [Act.put, List.setIfInBounds_toArray, List.set_cons_zero, List.set_cons_succ]
        refine RegL.wpAnyL_ready (rs := [3]) (by kernel_rfl) (by simp) ?_
        refine RegL.AllReadyL.calm (o := ⟨some 47, Op.call { callee := Callee.value (Operand.func 19), args := #[Operand.tmp 46], argTypes := #[24] }, _, _, _, _⟩) rfl (fun K hK => ?_) RegL.AllReadyL.nil
        go_simp
        refine (HNB.out _).mono ?_
        rintro e w_1543 ⟨v, rfl, rfl, hb⟩
        have HE_1543 := Lib.hid hb
        clear hb
        have Z_1543 := Lib.hid HE_1543.out.size
        have HV_1543 := Lib.hid (below_trans HV_154.out HE_1543.out)
        have Bh2_1543 := Lib.hid (blk_below Bh2_154.out HE_1543.out)
        have Bh1_1543 := Lib.hid (blk_below Bh1_154.out HE_1543.out)
        (try dsimp only)
        refine hK.out _ _ (⟨⟨cell_below hS0xxx.1.1 HE_1543.out, cell_below hS0xxx.1.2 HE_1543.out⟩, ⟨cell_below hS0xxx.2.1 HE_1543.out, cell_below hS0xxx.2.2 HE_1543.out⟩⟩) (fun hS0xxxx => ?_)
        clear hK K
        try simp only [Act.put, List.setIfInBounds_toArray, List.set_cons_zero, List.set_cons_succ]
        refine RegL.wpAnyL_ready (rs := [6]) (by kernel_rfl) (by simp) ?_
        refine RegL.AllReadyL.late (o := ⟨none, Op.store 30 (Operand.tmp 11) (Operand.tmp 45), _, _, _, _⟩) rfl (by kernel_rfl) (fun K hK => ?_) RegL.AllReadyL.nil
        have hne : h1 ≠ h2 := by have z0 := Z_.out; have z_1 := Z_1.out; have z_15 := Z_15.out; have y_15 := Y_15.out; have x_15 := Xh2_15.out; have z_154 := Z_154.out; have y_154 := Y_154.out; have x_154 := Xh1_154.out; have z_1543 := Z_1543.out; omega
        have hs1 : V.heap.size ≤ h1 := by have z0 := Z_.out; have z_1 := Z_1.out; have z_15 := Z_15.out; have y_15 := Y_15.out; have x_15 := Xh2_15.out; have z_154 := Z_154.out; have y_154 := Y_154.out; have x_154 := Xh1_154.out; have z_1543 := Z_1543.out; omega
        have hs2 : V.heap.size ≤ h2 := by have z0 := Z_.out; have z_1 := Z_1.out; have z_15 := Z_15.out; have y_15 := Y_15.out; have x_15 := Xh2_15.out; have z_154 := Z_154.out; have y_154 := Y_154.out; have x_154 := Xh1_154.out; have z_1543 := Z_1543.out; omega
        have HP := Lib.hid (p3_of Bh1_1543.out Bh2_1543.out hne hs1 hs2 HV_1543.out y b 0 none y' b' 0 none)
        have hne2 : h2 ≠ h1 := fun h => hne h.symm
        obtain ⟨⟨e0, e1, e2, e3⟩, f0, f1, f2, f3⟩ := box4 Bh1_1543.out
        obtain ⟨⟨r0, r1, r2, r3⟩, s0, s1, s2, s3⟩ := box4 (put4_far Bh2_1543.out hne2 (.int .u64 y) (.int .i64 b) (.int .i64 0) (.pointer none))
        go_simp
        refine hK.out _ _ ?_
        clear hK K
        try simp only [Act.put, List.setIfInBounds_toArray, List.set_cons_zero, List.set_cons_succ]
        refine RegL.wpAnyL_ready (rs := [7]) (by kernel_rfl) (by simp) ?_
        refine RegL.AllReadyL.late (o := ⟨none, Op.store 30 (Operand.tmp 12) (Operand.tmp 47), _, _, _, _⟩) rfl (by kernel_rfl) (fun K hK => ?_) RegL.AllReadyL.nil
        go_simp
        refine hK.out _ _ ?_
        clear hK K
        try simp only [Act.put, List.setIfInBounds_toArray, List.set_cons_zero, List.set_cons_succ]
        refine RegL.wpAnyL_done (by kernel_rfl) ?_ _
        refine NoPanic.normal ?_
        (go_wp2_with fail)
        go_meet
        exact ⟨_, _, rfl, rfl, HP⟩
      refine RegL.AllReadyL.calm (o := ⟨some 11, Op.alloc 30, _, _, _, _⟩) rfl (fun K hK => ?_) ?_
      · go_simp
        have hb := (Below.refl V0.heap.size V0).alloc (Nat.le_refl _) (.cells #[.int .u64 0, .int .i64 0, .int .i64 0, .pointer none] MT)
        have hB := blk_new V0 (.cells #[.int .u64 0, .int .i64 0, .int .i64 0, .pointer none] MT)
        have hz : (V0.alloc (.cells #[.int .u64 0, .int .i64 0, .int .i64 0, .pointer none] MT)).heap.size = V0.heap.size + 1 := by simp
        obtain ⟨h1, hh⟩ : ∃ h, h = V0.heap.size := ⟨_, rfl⟩
        have Xh1_4 := Lib.hid hh
        rw [← hh] at hB ⊢
        clear hh
        generalize V0.alloc (.cells #[.int .u64 0, .int .i64 0, .int .i64 0, .pointer none] MT) = w_4 at hb hB hz ⊢
        have HE_4 := Lib.hid hb; have Bh1_4 := Lib.hid hB; have Y_4 := Lib.hid hz
        clear hb hB hz
        have Z_4 := Lib.hid HE_4.out.size
        have HV_4 := Lib.hid (below_trans HV_.out HE_4.out)
        (try dsimp only)
        refine hK.out _ _ (⟨⟨cell_below hS0.1.1 HE_4.out, cell_below hS0.1.2 HE_4.out⟩, ⟨cell_below hS0.2.1 HE_4.out, cell_below hS0.2.2 HE_4.out⟩⟩) (fun hS0x => ?_)
        clear hK K
        try simp only [Act.put, List.setIfInBounds_toArray, List.set_cons_zero, List.set_cons_succ]
        refine RegL.wpAnyL_ready (rs := [1, 5]) (by kernel_rfl) (by simp) ?_
        refine RegL.AllReadyL.calm (o := ⟨some 45, Op.call { callee := Callee.value (Operand.func 19), args := #[Operand.tmp 44], argTypes := #[24] }, _, _, _, _⟩) rfl (fun K hK => ?_) ?_
        · go_simp
          refine (HNA.out _).mono ?_
          rintro e w_41 ⟨v, rfl, rfl, hb⟩
          have HE_41 := Lib.hid hb
          clear hb
          have Z_41 := Lib.hid HE_41.out.size
          have HV_41 := Lib.hid (below_trans HV_4.out HE_41.out)
          have Bh1_41 := Lib.hid (blk_below Bh1_4.out HE_41.out)
          (try dsimp only)
          refine hK.out _ _ (⟨⟨cell_below hS0x.1.1 HE_41.out, cell_below hS0x.1.2 HE_41.out⟩, ⟨cell_below hS0x.2.1 HE_41.out, cell_below hS0x.2.2 HE_41.out⟩⟩) (fun hS0xx => ?_)
          clear hK K
          try simp only [Act.put, List.setIfInBounds_toArray, List.set_cons_zero, List.set_cons_succ]
          refine RegL.wpAnyL_ready (rs := [3, 5]) (by kernel_rfl) (by simp) ?_
          refine RegL.AllReadyL.calm (o := ⟨some 47, Op.call { callee := Callee.value (Operand.func 19), args := #[Operand.tmp 46], argTypes := #[24] }, _, _, _, _⟩) rfl (fun K hK => ?_) ?_
          · go_simp
            refine (HNB.out _).mono ?_
            rintro e w_413 ⟨v, rfl, rfl, hb⟩
            have HE_413 := Lib.hid hb
            clear hb
            have Z_413 := Lib.hid HE_413.out.size
            have HV_413 := Lib.hid (below_trans HV_41.out HE_413.out)
            have Bh1_413 := Lib.hid (blk_below Bh1_41.out HE_413.out)
            (try dsimp only)
            refine hK.out _ _ (⟨⟨cell_below hS0xx.1.1 HE_413.out, cell_below hS0xx.1.2 HE_413.out⟩, ⟨cell_below hS0xx.2.1 HE_413.out, cell_below hS0xx.2.2 HE_413.out⟩⟩) (fun hS0xxx => ?_)
            clear hK K
            try simp only [Act.put, List.setIfInBounds_toArray, List.set_cons_zero, List.set_cons_succ]
            refine RegL.wpAnyL_ready (rs := [5]) (by kernel_rfl) (by simp) ?_
            refine RegL.AllReadyL.calm (o := ⟨some 12, Op.alloc 30, _, _, _, _⟩) rfl (fun K hK => ?_) RegL.AllReadyL.nil
            go_simp
            have hb := (Below.refl w_413.heap.size w_413).alloc (Nat.le_refl _) (.cells #[.int .u64 0, .int .i64 0, .int .i64 0, .pointer none] MT)
            have hB := blk_new w_413 (.cells #[.int .u64 0, .int .i64 0, .int .i64 0, .pointer none] MT)
            have hz : (w_413.alloc (.cells #[.int .u64 0, .int .i64 0, .int .i64 0, .pointer none] MT)).heap.size = w_413.heap.size + 1 := by simp
            obtain ⟨h2, hh⟩ : ∃ h, h = w_413.heap.size := ⟨_, rfl⟩
            have Xh2_4135 := Lib.hid hh
            rw [← hh] at hB ⊢
            clear hh
            generalize w_413.alloc (.cells #[.int .u64 0, .int .i64 0, .int .i64 0, .pointer none] MT) = w_4135 at hb hB hz ⊢
            have HE_4135 := Lib.hid hb; have Bh2_4135 := Lib.hid hB; have Y_4135 := Lib.hid hz
            clear hb hB hz
            have Z_4135 := Lib.hid HE_4135.out.size
            have HV_4135 := Lib.hid (below_trans HV_413.out HE_4135.out)
            have Bh1_4135 := Lib.hid (blk_below Bh1_413.out HE_4135.out)
            (try dsimp only)
            refine hK.out _ _ (⟨⟨cell_below hS0xxx.1.1 HE_4135.out, cell_below hS0xxx.1.2 HE_4135.out⟩, ⟨cell_below hS0xxx.2.1 HE_4135.out, cell_below hS0xxx.2.2 HE_4135.out⟩⟩) (fun hS0xxxx => ?_)
            clear hK K
            try simp only [Act.put, List.setIfInBounds_toArray, List.set_cons_zero, List.set_cons_succ]
            refine RegL.wpAnyL_ready (rs := [6]) (by kernel_rfl) (by simp) ?_
            refine RegL.AllReadyL.late (o := ⟨none, Op.store 30 (Operand.tmp 11) (Operand.tmp 45), _, _, _, _⟩) rfl (by kernel_rfl) (fun K hK => ?_) RegL.AllReadyL.nil
            have hne : h1 ≠ h2 := by have z0 := Z_.out; have z_4 := Z_4.out; have y_4 := Y_4.out; have x_4 := Xh1_4.out; have z_41 := Z_41.out; have z_413 := Z_413.out; have z_4135 := Z_4135.out; have y_4135 := Y_4135.out; have x_4135 := Xh2_4135.out; omega
            have hs1 : V.heap.size ≤ h1 := by have z0 := Z_.out; have z_4 := Z_4.out; have y_4 := Y_4.out; have x_4 := Xh1_4.out; have z_41 := Z_41.out; have z_413 := Z_413.out; have z_4135 := Z_4135.out; have y_4135 := Y_4135.out; have x_4135 := Xh2_4135.out; omega
            have hs2 : V.heap.size ≤ h2 := by have z0 := Z_.out; have z_4 := Z_4.out; have y_4 := Y_4.out; have x_4 := Xh1_4.out; have z_41 := Z_41.out; have z_413 := Z_413.out; have z_4135 := Z_4135.out; have y_4135 := Y_4135.out; have x_4135 := Xh2_4135.out; omega
            have HP := Lib.hid (p3_of Bh1_4135.out Bh2_4135.out hne hs1 hs2 HV_4135.out y b 0 none y' b' 0 none)
            have hne2 : h2 ≠ h1 := fun h => hne h.symm
            obtain ⟨⟨e0, e1, e2, e3⟩, f0, f1, f2, f3⟩ := box4 Bh1_4135.out
            obtain ⟨⟨r0, r1, r2, r3⟩, s0, s1, s2, s3⟩ := box4 (put4_far Bh2_4135.out hne2 (.int .u64 y) (.int .i64 b) (.int .i64 0) (.pointer none))
            go_simp
            refine hK.out _ _ ?_
            clear hK K
            try simp only [Act.put, List.setIfInBounds_toArray, List.set_cons_zero, List.set_cons_succ]
            refine RegL.wpAnyL_ready (rs := [7]) (by kernel_rfl) (by simp) ?_
            refine RegL.AllReadyL.late (o := ⟨none, Op.store 30 (Operand.tmp 12) (Operand.tmp 47), _, _, _, _⟩) rfl (by kernel_rfl) (fun K hK => ?_) RegL.AllReadyL.nil
            go_simp
            refine hK.out _ _ ?_
            clear hK K
            try simp only [Act.put, List.setIfInBounds_toArray, List.set_cons_zero, List.set_cons_succ]
            refine RegL.wpAnyL_done (by kernel_rfl) ?_ _
            refine NoPanic.normal ?_
            (go_wp2_with fail)
            go_meet
            exact ⟨_, _, rfl, rfl, HP⟩
          refine RegL.AllReadyL.calm (o := ⟨some 12, Op.alloc 30, _, _, _, _⟩) rfl (fun K hK => ?_) RegL.AllReadyL.nil
          go_simp
          have hb := (Below.refl w_41.heap.size w_41).alloc (Nat.le_refl _) (.cells #[.int .u64 0, .int .i64 0, .int .i64 0, .pointer none] MT)
          have hB := blk_new w_41 (.cells #[.int .u64 0, .int .i64 0, .int .i64 0, .pointer none] MT)
          have hz : (w_41.alloc (.cells #[.int .u64 0, .int .i64 0, .int .i64 0, .pointer none] MT)).heap.size = w_41.heap.size + 1 := by simp
          obtain ⟨h2, hh⟩ : ∃ h, h = w_41.heap.size := ⟨_, rfl⟩
          have Xh2_415 := Lib.hid hh
          rw [← hh] at hB ⊢
          clear hh
          generalize w_41.alloc (.cells #[.int .u64 0, .int .i64 0, .int .i64 0, .pointer none] MT) = w_415 at hb hB hz ⊢
          have HE_415 := Lib.hid hb; have Bh2_415 := Lib.hid hB; have Y_415 := Lib.hid hz
          clear hb hB hz
          have Z_415 := Lib.hid HE_415.out.size
          have HV_415 := Lib.hid (below_trans HV_41.out HE_415.out)
          have Bh1_415 := Lib.hid (blk_below Bh1_41.out HE_415.out)
          (try dsimp only)
          refine hK.out _ _ (⟨⟨cell_below hS0xx.1.1 HE_415.out, cell_below hS0xx.1.2 HE_415.out⟩, ⟨cell_below hS0xx.2.1 HE_415.out, cell_below hS0xx.2.2 HE_415.out⟩⟩) (fun hS0xxx => ?_)
          clear hK K
          try simp only [Act.put, List.setIfInBounds_toArray, List.set_cons_zero, List.set_cons_succ]
          refine RegL.wpAnyL_ready (rs := [3]) (by kernel_rfl) (by simp) ?_
          refine RegL.AllReadyL.calm (o := ⟨some 47, Op.call { callee := Callee.value (Operand.func 19), args := #[Operand.tmp 46], argTypes := #[24] }, _, _, _, _⟩) rfl (fun K hK => ?_) RegL.AllReadyL.nil
          go_simp
          refine (HNB.out _).mono ?_
          rintro e w_4153 ⟨v, rfl, rfl, hb⟩
          have HE_4153 := Lib.hid hb
          clear hb
          have Z_4153 := Lib.hid HE_4153.out.size
          have HV_4153 := Lib.hid (below_trans HV_415.out HE_4153.out)
          have Bh1_4153 := Lib.hid (blk_below Bh1_415.out HE_4153.out)
          have Bh2_4153 := Lib.hid (blk_below Bh2_415.out HE_4153.out)
          (try dsimp only)
          refine hK.out _ _ (⟨⟨cell_below hS0xxx.1.1 HE_4153.out, cell_below hS0xxx.1.2 HE_4153.out⟩, ⟨cell_below hS0xxx.2.1 HE_4153.out, cell_below hS0xxx.2.2 HE_4153.out⟩⟩) (fun hS0xxxx => ?_)
          clear hK K
          try simp only [Act.put, List.setIfInBounds_toArray, List.set_cons_zero, List.set_cons_succ]
          refine RegL.wpAnyL_ready (rs := [6]) (by kernel_rfl) (by simp) ?_
          refine RegL.AllReadyL.late (o := ⟨none, Op.store 30 (Operand.tmp 11) (Operand.tmp 45), _, _, _, _⟩) rfl (by kernel_rfl) (fun K hK => ?_) RegL.AllReadyL.nil
          have hne : h1 ≠ h2 := by have z0 := Z_.out; have z_4 := Z_4.out; have y_4 := Y_4.out; have x_4 := Xh1_4.out; have z_41 := Z_41.out; have z_415 := Z_415.out; have y_415 := Y_415.out; have x_415 := Xh2_415.out; have z_4153 := Z_4153.out; omega
          have hs1 : V.heap.size ≤ h1 := by have z0 := Z_.out; have z_4 := Z_4.out; have y_4 := Y_4.out; have x_4 := Xh1_4.out; have z_41 := Z_41.out; have z_415 := Z_415.out; have y_415 := Y_415.out; have x_415 := Xh2_415.out; have z_4153 := Z_4153.out; omega
          have hs2 : V.heap.size ≤ h2 := by have z0 := Z_.out; have z_4 := Z_4.out; have y_4 := Y_4.out; have x_4 := Xh1_4.out; have z_41 := Z_41.out; have z_415 := Z_415.out; have y_415 := Y_415.out; have x_415 := Xh2_415.out; have z_4153 := Z_4153.out; omega
          have HP := Lib.hid (p3_of Bh1_4153.out Bh2_4153.out hne hs1 hs2 HV_4153.out y b 0 none y' b' 0 none)
          have hne2 : h2 ≠ h1 := fun h => hne h.symm
          obtain ⟨⟨e0, e1, e2, e3⟩, f0, f1, f2, f3⟩ := box4 Bh1_4153.out
          obtain ⟨⟨r0, r1, r2, r3⟩, s0, s1, s2, s3⟩ := box4 (put4_far Bh2_4153.out hne2 (.int .u64 y) (.int .i64 b) (.int .i64 0) (.pointer none))
          go_simp
          refine hK.out _ _ ?_
          clear hK K
          try simp only [Act.put, List.setIfInBounds_toArray, List.set_cons_zero, List.set_cons_succ]
          refine RegL.wpAnyL_ready (rs := [7]) (by kernel_rfl) (by simp) ?_
          refine RegL.AllReadyL.late (o := ⟨none, Op.store 30 (Operand.tmp 12) (Operand.tmp 47), _, _, _, _⟩) rfl (by kernel_rfl) (fun K hK => ?_) RegL.AllReadyL.nil
          go_simp
          refine hK.out _ _ ?_
          clear hK K
          try simp only [Act.put, List.setIfInBounds_toArray, List.set_cons_zero, List.set_cons_succ]
          refine RegL.wpAnyL_done (by kernel_rfl) ?_ _
          refine NoPanic.normal ?_
          (go_wp2_with fail)
          go_meet
          exact ⟨_, _, rfl, rfl, HP⟩
        refine RegL.AllReadyL.calm (o := ⟨some 12, Op.alloc 30, _, _, _, _⟩) rfl (fun K hK => ?_) RegL.AllReadyL.nil
        go_simp
        have hb := (Below.refl w_4.heap.size w_4).alloc (Nat.le_refl _) (.cells #[.int .u64 0, .int .i64 0, .int .i64 0, .pointer none] MT)
        have hB := blk_new w_4 (.cells #[.int .u64 0, .int .i64 0, .int .i64 0, .pointer none] MT)
        have hz : (w_4.alloc (.cells #[.int .u64 0, .int .i64 0, .int .i64 0, .pointer none] MT)).heap.size = w_4.heap.size + 1 := by simp
        obtain ⟨h2, hh⟩ : ∃ h, h = w_4.heap.size := ⟨_, rfl⟩
        have Xh2_45 := Lib.hid hh
        rw [← hh] at hB ⊢
        clear hh
        generalize w_4.alloc (.cells #[.int .u64 0, .int .i64 0, .int .i64 0, .pointer none] MT) = w_45 at hb hB hz ⊢
        have HE_45 := Lib.hid hb; have Bh2_45 := Lib.hid hB; have Y_45 := Lib.hid hz
        clear hb hB hz
        have Z_45 := Lib.hid HE_45.out.size
        have HV_45 := Lib.hid (below_trans HV_4.out HE_45.out)
        have Bh1_45 := Lib.hid (blk_below Bh1_4.out HE_45.out)
        (try dsimp only)
        refine hK.out _ _ (⟨⟨cell_below hS0x.1.1 HE_45.out, cell_below hS0x.1.2 HE_45.out⟩, ⟨cell_below hS0x.2.1 HE_45.out, cell_below hS0x.2.2 HE_45.out⟩⟩) (fun hS0xx => ?_)
        clear hK K
        try simp only [Act.put, List.setIfInBounds_toArray, List.set_cons_zero, List.set_cons_succ]
        refine RegL.wpAnyL_ready (rs := [1]) (by kernel_rfl) (by simp) ?_
        refine RegL.AllReadyL.calm (o := ⟨some 45, Op.call { callee := Callee.value (Operand.func 19), args := #[Operand.tmp 44], argTypes := #[24] }, _, _, _, _⟩) rfl (fun K hK => ?_) RegL.AllReadyL.nil
        go_simp
        refine (HNA.out _).mono ?_
        rintro e w_451 ⟨v, rfl, rfl, hb⟩
        have HE_451 := Lib.hid hb
        clear hb
        have Z_451 := Lib.hid HE_451.out.size
        have HV_451 := Lib.hid (below_trans HV_45.out HE_451.out)
        have Bh1_451 := Lib.hid (blk_below Bh1_45.out HE_451.out)
        have Bh2_451 := Lib.hid (blk_below Bh2_45.out HE_451.out)
        (try dsimp only)
        refine hK.out _ _ (⟨⟨cell_below hS0xx.1.1 HE_451.out, cell_below hS0xx.1.2 HE_451.out⟩, ⟨cell_below hS0xx.2.1 HE_451.out, cell_below hS0xx.2.2 HE_451.out⟩⟩) (fun hS0xxx => ?_)
        clear hK K
        try simp only [Act.put, List.setIfInBounds_toArray, List.set_cons_zero, List.set_cons_succ]
        refine RegL.wpAnyL_ready (rs := [3]) (by kernel_rfl) (by simp) ?_
        refine RegL.AllReadyL.calm (o := ⟨some 47, Op.call { callee := Callee.value (Operand.func 19), args := #[Operand.tmp 46], argTypes := #[24] }, _, _, _, _⟩) rfl (fun K hK => ?_) RegL.AllReadyL.nil
        go_simp
        refine (HNB.out _).mono ?_
        rintro e w_4513 ⟨v, rfl, rfl, hb⟩
        have HE_4513 := Lib.hid hb
        clear hb
        have Z_4513 := Lib.hid HE_4513.out.size
        have HV_4513 := Lib.hid (below_trans HV_451.out HE_4513.out)
        have Bh1_4513 := Lib.hid (blk_below Bh1_451.out HE_4513.out)
        have Bh2_4513 := Lib.hid (blk_below Bh2_451.out HE_4513.out)
        (try dsimp only)
        refine hK.out _ _ (⟨⟨cell_below hS0xxx.1.1 HE_4513.out, cell_below hS0xxx.1.2 HE_4513.out⟩, ⟨cell_below hS0xxx.2.1 HE_4513.out, cell_below hS0xxx.2.2 HE_4513.out⟩⟩) (fun hS0xxxx => ?_)
        clear hK K
        try simp only [Act.put, List.setIfInBounds_toArray, List.set_cons_zero, List.set_cons_succ]
        refine RegL.wpAnyL_ready (rs := [6]) (by kernel_rfl) (by simp) ?_
        refine RegL.AllReadyL.late (o := ⟨none, Op.store 30 (Operand.tmp 11) (Operand.tmp 45), _, _, _, _⟩) rfl (by kernel_rfl) (fun K hK => ?_) RegL.AllReadyL.nil
        have hne : h1 ≠ h2 := by have z0 := Z_.out; have z_4 := Z_4.out; have y_4 := Y_4.out; have x_4 := Xh1_4.out; have z_45 := Z_45.out; have y_45 := Y_45.out; have x_45 := Xh2_45.out; have z_451 := Z_451.out; have z_4513 := Z_4513.out; omega
        have hs1 : V.heap.size ≤ h1 := by have z0 := Z_.out; have z_4 := Z_4.out; have y_4 := Y_4.out; have x_4 := Xh1_4.out; have z_45 := Z_45.out; have y_45 := Y_45.out; have x_45 := Xh2_45.out; have z_451 := Z_451.out; have z_4513 := Z_4513.out; omega
        have hs2 : V.heap.size ≤ h2 := by have z0 := Z_.out; have z_4 := Z_4.out; have y_4 := Y_4.out; have x_4 := Xh1_4.out; have z_45 := Z_45.out; have y_45 := Y_45.out; have x_45 := Xh2_45.out; have z_451 := Z_451.out; have z_4513 := Z_4513.out; omega
        have HP := Lib.hid (p3_of Bh1_4513.out Bh2_4513.out hne hs1 hs2 HV_4513.out y b 0 none y' b' 0 none)
        have hne2 : h2 ≠ h1 := fun h => hne h.symm
        obtain ⟨⟨e0, e1, e2, e3⟩, f0, f1, f2, f3⟩ := box4 Bh1_4513.out
        obtain ⟨⟨r0, r1, r2, r3⟩, s0, s1, s2, s3⟩ := box4 (put4_far Bh2_4513.out hne2 (.int .u64 y) (.int .i64 b) (.int .i64 0) (.pointer none))
        go_simp
        refine hK.out _ _ ?_
        clear hK K
        try simp only [Act.put, List.setIfInBounds_toArray, List.set_cons_zero, List.set_cons_succ]
        refine RegL.wpAnyL_ready (rs := [7]) (by kernel_rfl) (by simp) ?_
        refine RegL.AllReadyL.late (o := ⟨none, Op.store 30 (Operand.tmp 12) (Operand.tmp 47), _, _, _, _⟩) rfl (by kernel_rfl) (fun K hK => ?_) RegL.AllReadyL.nil
        go_simp
        refine hK.out _ _ ?_
        clear hK K
        try simp only [Act.put, List.setIfInBounds_toArray, List.set_cons_zero, List.set_cons_succ]
        refine RegL.wpAnyL_done (by kernel_rfl) ?_ _
        refine NoPanic.normal ?_
        (go_wp2_with fail)
        go_meet
        exact ⟨_, _, rfl, rfl, HP⟩
      refine RegL.AllReadyL.calm (o := ⟨some 12, Op.alloc 30, _, _, _, _⟩) rfl (fun K hK => ?_) RegL.AllReadyL.nil
      go_simp
      have hb := (Below.refl V0.heap.size V0).alloc (Nat.le_refl _) (.cells #[.int .u64 0, .int .i64 0, .int .i64 0, .pointer none] MT)
      have hB := blk_new V0 (.cells #[.int .u64 0, .int .i64 0, .int .i64 0, .pointer none] MT)
      have hz : (V0.alloc (.cells #[.int .u64 0, .int .i64 0, .int .i64 0, .pointer none] MT)).heap.size = V0.heap.size + 1 := by simp
      obtain ⟨h2, hh⟩ : ∃ h, h = V0.heap.size := ⟨_, rfl⟩
      have Xh2_5 := Lib.hid hh
      rw [← hh] at hB ⊢
      clear hh
      generalize V0.alloc (.cells #[.int .u64 0, .int .i64 0, .int .i64 0, .pointer none] MT) = w_5 at hb hB hz ⊢
      have HE_5 := Lib.hid hb; have Bh2_5 := Lib.hid hB; have Y_5 := Lib.hid hz
      clear hb hB hz
      have Z_5 := Lib.hid HE_5.out.size
      have HV_5 := Lib.hid (below_trans HV_.out HE_5.out)
      (try dsimp only)
      refine hK.out _ _ (⟨⟨cell_below hS0.1.1 HE_5.out, cell_below hS0.1.2 HE_5.out⟩, ⟨cell_below hS0.2.1 HE_5.out, cell_below hS0.2.2 HE_5.out⟩⟩) (fun hS0x => ?_)
      clear hK K
      try simp only [Act.put, List.setIfInBounds_toArray, List.set_cons_zero, List.set_cons_succ]
      refine RegL.wpAnyL_ready (rs := [1, 4]) (by kernel_rfl) (by simp) ?_
      refine RegL.AllReadyL.calm (o := ⟨some 45, Op.call { callee := Callee.value (Operand.func 19), args := #[Operand.tmp 44], argTypes := #[24] }, _, _, _, _⟩) rfl (fun K hK => ?_) ?_
      · go_simp
        refine (HNA.out _).mono ?_
        rintro e w_51 ⟨v, rfl, rfl, hb⟩
        have HE_51 := Lib.hid hb
        clear hb
        have Z_51 := Lib.hid HE_51.out.size
        have HV_51 := Lib.hid (below_trans HV_5.out HE_51.out)
        have Bh2_51 := Lib.hid (blk_below Bh2_5.out HE_51.out)
        (try dsimp only)
        refine hK.out _ _ (⟨⟨cell_below hS0x.1.1 HE_51.out, cell_below hS0x.1.2 HE_51.out⟩, ⟨cell_below hS0x.2.1 HE_51.out, cell_below hS0x.2.2 HE_51.out⟩⟩) (fun hS0xx => ?_)
        clear hK K
        try simp only [Act.put, List.setIfInBounds_toArray, List.set_cons_zero, List.set_cons_succ]
        refine RegL.wpAnyL_ready (rs := [3, 4]) (by kernel_rfl) (by simp) ?_
        refine RegL.AllReadyL.calm (o := ⟨some 47, Op.call { callee := Callee.value (Operand.func 19), args := #[Operand.tmp 46], argTypes := #[24] }, _, _, _, _⟩) rfl (fun K hK => ?_) ?_
        · go_simp
          refine (HNB.out _).mono ?_
          rintro e w_513 ⟨v, rfl, rfl, hb⟩
          have HE_513 := Lib.hid hb
          clear hb
          have Z_513 := Lib.hid HE_513.out.size
          have HV_513 := Lib.hid (below_trans HV_51.out HE_513.out)
          have Bh2_513 := Lib.hid (blk_below Bh2_51.out HE_513.out)
          (try dsimp only)
          refine hK.out _ _ (⟨⟨cell_below hS0xx.1.1 HE_513.out, cell_below hS0xx.1.2 HE_513.out⟩, ⟨cell_below hS0xx.2.1 HE_513.out, cell_below hS0xx.2.2 HE_513.out⟩⟩) (fun hS0xxx => ?_)
          clear hK K
          try simp only [Act.put, List.setIfInBounds_toArray, List.set_cons_zero, List.set_cons_succ]
          refine RegL.wpAnyL_ready (rs := [4]) (by kernel_rfl) (by simp) ?_
          refine RegL.AllReadyL.calm (o := ⟨some 11, Op.alloc 30, _, _, _, _⟩) rfl (fun K hK => ?_) RegL.AllReadyL.nil
          go_simp
          have hb := (Below.refl w_513.heap.size w_513).alloc (Nat.le_refl _) (.cells #[.int .u64 0, .int .i64 0, .int .i64 0, .pointer none] MT)
          have hB := blk_new w_513 (.cells #[.int .u64 0, .int .i64 0, .int .i64 0, .pointer none] MT)
          have hz : (w_513.alloc (.cells #[.int .u64 0, .int .i64 0, .int .i64 0, .pointer none] MT)).heap.size = w_513.heap.size + 1 := by simp
          obtain ⟨h1, hh⟩ : ∃ h, h = w_513.heap.size := ⟨_, rfl⟩
          have Xh1_5134 := Lib.hid hh
          rw [← hh] at hB ⊢
          clear hh
          generalize w_513.alloc (.cells #[.int .u64 0, .int .i64 0, .int .i64 0, .pointer none] MT) = w_5134 at hb hB hz ⊢
          have HE_5134 := Lib.hid hb; have Bh1_5134 := Lib.hid hB; have Y_5134 := Lib.hid hz
          clear hb hB hz
          have Z_5134 := Lib.hid HE_5134.out.size
          have HV_5134 := Lib.hid (below_trans HV_513.out HE_5134.out)
          have Bh2_5134 := Lib.hid (blk_below Bh2_513.out HE_5134.out)
          (try dsimp only)
          refine hK.out _ _ (⟨⟨cell_below hS0xxx.1.1 HE_5134.out, cell_below hS0xxx.1.2 HE_5134.out⟩, ⟨cell_below hS0xxx.2.1 HE_5134.out, cell_below hS0xxx.2.2 HE_5134.out⟩⟩) (fun hS0xxxx => ?_)
          clear hK K
          try simp only [Act.put, List.setIfInBounds_toArray, List.set_cons_zero, List.set_cons_succ]
          refine RegL.wpAnyL_ready (rs := [6]) (by kernel_rfl) (by simp) ?_
          refine RegL.AllReadyL.late (o := ⟨none, Op.store 30 (Operand.tmp 11) (Operand.tmp 45), _, _, _, _⟩) rfl (by kernel_rfl) (fun K hK => ?_) RegL.AllReadyL.nil
          have hne : h1 ≠ h2 := by have z0 := Z_.out; have z_5 := Z_5.out; have y_5 := Y_5.out; have x_5 := Xh2_5.out; have z_51 := Z_51.out; have z_513 := Z_513.out; have z_5134 := Z_5134.out; have y_5134 := Y_5134.out; have x_5134 := Xh1_5134.out; omega
          have hs1 : V.heap.size ≤ h1 := by have z0 := Z_.out; have z_5 := Z_5.out; have y_5 := Y_5.out; have x_5 := Xh2_5.out; have z_51 := Z_51.out; have z_513 := Z_513.out; have z_5134 := Z_5134.out; have y_5134 := Y_5134.out; have x_5134 := Xh1_5134.out; omega
          have hs2 : V.heap.size ≤ h2 := by have z0 := Z_.out; have z_5 := Z_5.out; have y_5 := Y_5.out; have x_5 := Xh2_5.out; have z_51 := Z_51.out; have z_513 := Z_513.out; have z_5134 := Z_5134.out; have y_5134 := Y_5134.out; have x_5134 := Xh1_5134.out; omega
          have HP := Lib.hid (p3_of Bh1_5134.out Bh2_5134.out hne hs1 hs2 HV_5134.out y b 0 none y' b' 0 none)
          have hne2 : h2 ≠ h1 := fun h => hne h.symm
          obtain ⟨⟨e0, e1, e2, e3⟩, f0, f1, f2, f3⟩ := box4 Bh1_5134.out
          obtain ⟨⟨r0, r1, r2, r3⟩, s0, s1, s2, s3⟩ := box4 (put4_far Bh2_5134.out hne2 (.int .u64 y) (.int .i64 b) (.int .i64 0) (.pointer none))
          go_simp
          refine hK.out _ _ ?_
          clear hK K
          try simp only [Act.put, List.setIfInBounds_toArray, List.set_cons_zero, List.set_cons_succ]
          refine RegL.wpAnyL_ready (rs := [7]) (by kernel_rfl) (by simp) ?_
          refine RegL.AllReadyL.late (o := ⟨none, Op.store 30 (Operand.tmp 12) (Operand.tmp 47), _, _, _, _⟩) rfl (by kernel_rfl) (fun K hK => ?_) RegL.AllReadyL.nil
          go_simp
          refine hK.out _ _ ?_
          clear hK K
          try simp only [Act.put, List.setIfInBounds_toArray, List.set_cons_zero, List.set_cons_succ]
          refine RegL.wpAnyL_done (by kernel_rfl) ?_ _
          refine NoPanic.normal ?_
          (go_wp2_with fail)
          go_meet
          exact ⟨_, _, rfl, rfl, HP⟩
        refine RegL.AllReadyL.calm (o := ⟨some 11, Op.alloc 30, _, _, _, _⟩) rfl (fun K hK => ?_) RegL.AllReadyL.nil
        go_simp
        have hb := (Below.refl w_51.heap.size w_51).alloc (Nat.le_refl _) (.cells #[.int .u64 0, .int .i64 0, .int .i64 0, .pointer none] MT)
        have hB := blk_new w_51 (.cells #[.int .u64 0, .int .i64 0, .int .i64 0, .pointer none] MT)
        have hz : (w_51.alloc (.cells #[.int .u64 0, .int .i64 0, .int .i64 0, .pointer none] MT)).heap.size = w_51.heap.size + 1 := by simp
        obtain ⟨h1, hh⟩ : ∃ h, h = w_51.heap.size := ⟨_, rfl⟩
        have Xh1_514 := Lib.hid hh
        rw [← hh] at hB ⊢
        clear hh
        generalize w_51.alloc (.cells #[.int .u64 0, .int .i64 0, .int .i64 0, .pointer none] MT) = w_514 at hb hB hz ⊢
        have HE_514 := Lib.hid hb; have Bh1_514 := Lib.hid hB; have Y_514 := Lib.hid hz
        clear hb hB hz
        have Z_514 := Lib.hid HE_514.out.size
        have HV_514 := Lib.hid (below_trans HV_51.out HE_514.out)
        have Bh2_514 := Lib.hid (blk_below Bh2_51.out HE_514.out)
        (try dsimp only)
        refine hK.out _ _ (⟨⟨cell_below hS0xx.1.1 HE_514.out, cell_below hS0xx.1.2 HE_514.out⟩, ⟨cell_below hS0xx.2.1 HE_514.out, cell_below hS0xx.2.2 HE_514.out⟩⟩) (fun hS0xxx => ?_)
        clear hK K
        try simp only [Act.put, List.setIfInBounds_toArray, List.set_cons_zero, List.set_cons_succ]
        refine RegL.wpAnyL_ready (rs := [3]) (by kernel_rfl) (by simp) ?_
        refine RegL.AllReadyL.calm (o := ⟨some 47, Op.call { callee := Callee.value (Operand.func 19), args := #[Operand.tmp 46], argTypes := #[24] }, _, _, _, _⟩) rfl (fun K hK => ?_) RegL.AllReadyL.nil
        go_simp
        refine (HNB.out _).mono ?_
        rintro e w_5143 ⟨v, rfl, rfl, hb⟩
        have HE_5143 := Lib.hid hb
        clear hb
        have Z_5143 := Lib.hid HE_5143.out.size
        have HV_5143 := Lib.hid (below_trans HV_514.out HE_5143.out)
        have Bh2_5143 := Lib.hid (blk_below Bh2_514.out HE_5143.out)
        have Bh1_5143 := Lib.hid (blk_below Bh1_514.out HE_5143.out)
        (try dsimp only)
        refine hK.out _ _ (⟨⟨cell_below hS0xxx.1.1 HE_5143.out, cell_below hS0xxx.1.2 HE_5143.out⟩, ⟨cell_below hS0xxx.2.1 HE_5143.out, cell_below hS0xxx.2.2 HE_5143.out⟩⟩) (fun hS0xxxx => ?_)
        clear hK K
        try simp only [Act.put, List.setIfInBounds_toArray, List.set_cons_zero, List.set_cons_succ]
        refine RegL.wpAnyL_ready (rs := [6]) (by kernel_rfl) (by simp) ?_
        refine RegL.AllReadyL.late (o := ⟨none, Op.store 30 (Operand.tmp 11) (Operand.tmp 45), _, _, _, _⟩) rfl (by kernel_rfl) (fun K hK => ?_) RegL.AllReadyL.nil
        have hne : h1 ≠ h2 := by have z0 := Z_.out; have z_5 := Z_5.out; have y_5 := Y_5.out; have x_5 := Xh2_5.out; have z_51 := Z_51.out; have z_514 := Z_514.out; have y_514 := Y_514.out; have x_514 := Xh1_514.out; have z_5143 := Z_5143.out; omega
        have hs1 : V.heap.size ≤ h1 := by have z0 := Z_.out; have z_5 := Z_5.out; have y_5 := Y_5.out; have x_5 := Xh2_5.out; have z_51 := Z_51.out; have z_514 := Z_514.out; have y_514 := Y_514.out; have x_514 := Xh1_514.out; have z_5143 := Z_5143.out; omega
        have hs2 : V.heap.size ≤ h2 := by have z0 := Z_.out; have z_5 := Z_5.out; have y_5 := Y_5.out; have x_5 := Xh2_5.out; have z_51 := Z_51.out; have z_514 := Z_514.out; have y_514 := Y_514.out; have x_514 := Xh1_514.out; have z_5143 := Z_5143.out; omega
        have HP := Lib.hid (p3_of Bh1_5143.out Bh2_5143.out hne hs1 hs2 HV_5143.out y b 0 none y' b' 0 none)
        have hne2 : h2 ≠ h1 := fun h => hne h.symm
        obtain ⟨⟨e0, e1, e2, e3⟩, f0, f1, f2, f3⟩ := box4 Bh1_5143.out
        obtain ⟨⟨r0, r1, r2, r3⟩, s0, s1, s2, s3⟩ := box4 (put4_far Bh2_5143.out hne2 (.int .u64 y) (.int .i64 b) (.int .i64 0) (.pointer none))
        go_simp
        refine hK.out _ _ ?_
        clear hK K
        try simp only [Act.put, List.setIfInBounds_toArray, List.set_cons_zero, List.set_cons_succ]
        refine RegL.wpAnyL_ready (rs := [7]) (by kernel_rfl) (by simp) ?_
        refine RegL.AllReadyL.late (o := ⟨none, Op.store 30 (Operand.tmp 12) (Operand.tmp 47), _, _, _, _⟩) rfl (by kernel_rfl) (fun K hK => ?_) RegL.AllReadyL.nil
        go_simp
        refine hK.out _ _ ?_
        clear hK K
        try simp only [Act.put, List.setIfInBounds_toArray, List.set_cons_zero, List.set_cons_succ]
        refine RegL.wpAnyL_done (by kernel_rfl) ?_ _
        refine NoPanic.normal ?_
        (go_wp2_with fail)
        go_meet
        exact ⟨_, _, rfl, rfl, HP⟩
      refine RegL.AllReadyL.calm (o := ⟨some 11, Op.alloc 30, _, _, _, _⟩) rfl (fun K hK => ?_) RegL.AllReadyL.nil
      go_simp
      have hb := (Below.refl w_5.heap.size w_5).alloc (Nat.le_refl _) (.cells #[.int .u64 0, .int .i64 0, .int .i64 0, .pointer none] MT)
      have hB := blk_new w_5 (.cells #[.int .u64 0, .int .i64 0, .int .i64 0, .pointer none] MT)
      have hz : (w_5.alloc (.cells #[.int .u64 0, .int .i64 0, .int .i64 0, .pointer none] MT)).heap.size = w_5.heap.size + 1 := by simp
      obtain ⟨h1, hh⟩ : ∃ h, h = w_5.heap.size := ⟨_, rfl⟩
      have Xh1_54 := Lib.hid hh
      rw [← hh] at hB ⊢
      clear hh
      generalize w_5.alloc (.cells #[.int .u64 0, .int .i64 0, .int .i64 0, .pointer none] MT) = w_54 at hb hB hz ⊢
      have HE_54 := Lib.hid hb; have Bh1_54 := Lib.hid hB; have Y_54 := Lib.hid hz
      clear hb hB hz
      have Z_54 := Lib.hid HE_54.out.size
      have HV_54 := Lib.hid (below_trans HV_5.out HE_54.out)
      have Bh2_54 := Lib.hid (blk_below Bh2_5.out HE_54.out)
      (try dsimp only)
      refine hK.out _ _ (⟨⟨cell_below hS0x.1.1 HE_54.out, cell_below hS0x.1.2 HE_54.out⟩, ⟨cell_below hS0x.2.1 HE_54.out, cell_below hS0x.2.2 HE_54.out⟩⟩) (fun hS0xx => ?_)
      clear hK K
      try simp only [Act.put, List.setIfInBounds_toArray, List.set_cons_zero, List.set_cons_succ]
      refine RegL.wpAnyL_ready (rs := [1]) (by kernel_rfl) (by simp) ?_
      refine RegL.AllReadyL.calm (o := ⟨some 45, Op.call { callee := Callee.value (Operand.func 19), args := #[Operand.tmp 44], argTypes := #[24] }, _, _, _, _⟩) rfl (fun K hK => ?_) RegL.AllReadyL.nil
      go_simp
      refine (HNA.out _).mono ?_
      rintro e w_541 ⟨v, rfl, rfl, hb⟩
      have HE_541 := Lib.hid hb
      clear hb
      have Z_541 := Lib.hid HE_541.out.size
      have HV_541 := Lib.hid (below_trans HV_54.out HE_541.out)
      have Bh2_541 := Lib.hid (blk_below Bh2_54.out HE_541.out)
      have Bh1_541 := Lib.hid (blk_below Bh1_54.out HE_541.out)
      (try dsimp only)
      refine hK.out _ _ (⟨⟨cell_below hS0xx.1.1 HE_541.out, cell_below hS0xx.1.2 HE_541.out⟩, ⟨cell_below hS0xx.2.1 HE_541.out, cell_below hS0xx.2.2 HE_541.out⟩⟩) (fun hS0xxx => ?_)
      clear hK K
      try simp only [Act.put, List.setIfInBounds_toArray, List.set_cons_zero, List.set_cons_succ]
      refine RegL.wpAnyL_ready (rs := [3]) (by kernel_rfl) (by simp) ?_
      refine RegL.AllReadyL.calm (o := ⟨some 47, Op.call { callee := Callee.value (Operand.func 19), args := #[Operand.tmp 46], argTypes := #[24] }, _, _, _, _⟩) rfl (fun K hK => ?_) RegL.AllReadyL.nil
      go_simp
      refine (HNB.out _).mono ?_
      rintro e w_5413 ⟨v, rfl, rfl, hb⟩
      have HE_5413 := Lib.hid hb
      clear hb
      have Z_5413 := Lib.hid HE_5413.out.size
      have HV_5413 := Lib.hid (below_trans HV_541.out HE_5413.out)
      have Bh2_5413 := Lib.hid (blk_below Bh2_541.out HE_5413.out)
      have Bh1_5413 := Lib.hid (blk_below Bh1_541.out HE_5413.out)
      (try dsimp only)
      refine hK.out _ _ (⟨⟨cell_below hS0xxx.1.1 HE_5413.out, cell_below hS0xxx.1.2 HE_5413.out⟩, ⟨cell_below hS0xxx.2.1 HE_5413.out, cell_below hS0xxx.2.2 HE_5413.out⟩⟩) (fun hS0xxxx => ?_)
      clear hK K
      try simp only [Act.put, List.setIfInBounds_toArray, List.set_cons_zero, List.set_cons_succ]
      refine RegL.wpAnyL_ready (rs := [6]) (by kernel_rfl) (by simp) ?_
      refine RegL.AllReadyL.late (o := ⟨none, Op.store 30 (Operand.tmp 11) (Operand.tmp 45), _, _, _, _⟩) rfl (by kernel_rfl) (fun K hK => ?_) RegL.AllReadyL.nil
      have hne : h1 ≠ h2 := by have z0 := Z_.out; have z_5 := Z_5.out; have y_5 := Y_5.out; have x_5 := Xh2_5.out; have z_54 := Z_54.out; have y_54 := Y_54.out; have x_54 := Xh1_54.out; have z_541 := Z_541.out; have z_5413 := Z_5413.out; omega
      have hs1 : V.heap.size ≤ h1 := by have z0 := Z_.out; have z_5 := Z_5.out; have y_5 := Y_5.out; have x_5 := Xh2_5.out; have z_54 := Z_54.out; have y_54 := Y_54.out; have x_54 := Xh1_54.out; have z_541 := Z_541.out; have z_5413 := Z_5413.out; omega
      have hs2 : V.heap.size ≤ h2 := by have z0 := Z_.out; have z_5 := Z_5.out; have y_5 := Y_5.out; have x_5 := Xh2_5.out; have z_54 := Z_54.out; have y_54 := Y_54.out; have x_54 := Xh1_54.out; have z_541 := Z_541.out; have z_5413 := Z_5413.out; omega
      have HP := Lib.hid (p3_of Bh1_5413.out Bh2_5413.out hne hs1 hs2 HV_5413.out y b 0 none y' b' 0 none)
      have hne2 : h2 ≠ h1 := fun h => hne h.symm
      obtain ⟨⟨e0, e1, e2, e3⟩, f0, f1, f2, f3⟩ := box4 Bh1_5413.out
      obtain ⟨⟨r0, r1, r2, r3⟩, s0, s1, s2, s3⟩ := box4 (put4_far Bh2_5413.out hne2 (.int .u64 y) (.int .i64 b) (.int .i64 0) (.pointer none))
      go_simp
      refine hK.out _ _ ?_
      clear hK K
      try simp only [Act.put, List.setIfInBounds_toArray, List.set_cons_zero, List.set_cons_succ]
      refine RegL.wpAnyL_ready (rs := [7]) (by kernel_rfl) (by simp) ?_
      refine RegL.AllReadyL.late (o := ⟨none, Op.store 30 (Operand.tmp 12) (Operand.tmp 47), _, _, _, _⟩) rfl (by kernel_rfl) (fun K hK => ?_) RegL.AllReadyL.nil
      go_simp
      refine hK.out _ _ ?_
      clear hK K
      try simp only [Act.put, List.setIfInBounds_toArray, List.set_cons_zero, List.set_cons_succ]
      refine RegL.wpAnyL_done (by kernel_rfl) ?_ _
      refine NoPanic.normal ?_
      (go_wp2_with fail)
      go_meet
      exact ⟨_, _, rfl, rfl, HP⟩
  case rest =>
    obtain ⟨h1, h2, rfl, rfl, hh⟩ := hcut
    have HL1 := Lib.hid hh.out.2.1; have HL2 := Lib.hid hh.out.2.2.1
    have HS0 := Lib.hid (twm_start c d HY.out HBE.out HY2.out HBE2.out hh.out)
    have HBS := Lib.hid hh.out.2.2.2.2.2
    clear hh a0 a1 d0 d1 HCV HDV HNA HNB
    go_wp2_with fail
    go_loopg [50] T (fun k v50 wr => Aside (ApI c d y b y' b' V h1 h2 T k v50 wr ()))
    case atStart =>
      show ApI _ _ _ _ _ _ _ _ _ _ _ _ _ _
      exact ⟨0, _, _, _, _, _, rfl, by omega, by simp, HS0.out, HBS.out⟩
    case round =>
      obtain ⟨i, n, p, m, q, L, rfl, hiT, hLi, hTw, hB⟩ := hrel.out
      clear hrel HS0 HBS
      by_cases hlt : i < T
      · have hltI : (i : Int) < (T : Int) := by omega
        obtain ⟨x, hx⟩ : ∃ x, os[i]? = some x := ⟨_, List.getElem?_eq_getElem (by rw [← HTE.out]; exact hlt)⟩
        obtain ⟨ad, rfl, x0, x1, x2⟩ := HO.out.at i x hx
        have hbw := below_trans HVW.out hB
        have x0 := cell_below x0 hbw
        have x1 := cell_below x1 hbw
        have x2 := cell_below x2 hbw
        have hok := HK.out x (List.mem_of_getElem? hx)
        obtain ⟨gk, rfl⟩ : ∃ g, gk = g + 1 := ⟨gk - 1, by omega⟩
        have hBo := blk_new wr (.cells #[.string x.f0, .int .i64 x.f1, .bool x.f2] OT)
        have hbl := (Below.refl wr.heap.size wr).alloc (Nat.le_refl _) (.cells #[.string x.f0, .int .i64 x.f1, .bool x.f2] OT)
        have HT2 := Lib.hid (hTw.below hbl); have HBN := Lib.hid (below_trans hB hbl); have HBO := Lib.hid hBo
        have hLl : L.length ≤ 1000 := by omega
        have HSR := Lib.hid hTw.srt
        clear hTw hB hBo hbl hx hbw
        go_upto_region 7 with fail
        clear x0 x1 x2
        have HVO := HVW
        have HBV := HBN
        clear HBN
        generalize wr.alloc (.cells #[.string x.f0, .int .i64 x.f1, .bool x.f2] OT) = V1 at HT2 HBV HBO ⊢
        generalize wr.heap.size = gb at HBO ⊢
        obtain ⟨⟨q0, q1, q2, q3⟩, -⟩ := box4 HT2.out.2.1
        obtain ⟨⟨q4, q5, q6, q7⟩, -⟩ := box4 HT2.out.2.2.1
        obtain ⟨⟨x0, x1, x2⟩, -⟩ := box3 HBO.out
        have HDO := Lib.hid (does_mv HY.out HBE.out (HT2.out.2.2.2.1.below ((Below.refl V1.heap.size V1).drew)) hLl (o1 x) (Nat.le_trans hok (by decide)) (HT.out.below (below_trans HVO.out HBV.out.drew)))
        have HDN := Lib.hid (fun V' (hV : Below V1.heap.size V1 V') => does_mv HY2.out HBE2.out (HT2.out.2.2.2.2.below hV) hLl (o1 x) (Nat.le_trans hok (by decide)) (HT.out.below (below_trans HVO.out (below_trans HBV.out hV))))
        refine wp_region_noPanic ?_
        refine RegL.wp_region_late [6, 7] (fun (w' : World) => (w'.cell? ⟨h1, 0, none⟩ = some (.int .u64 y) ∧ w'.cell? ⟨h1, 1, none⟩ = some (.int .i64 b) ∧ w'.cell? ⟨h1, 2, none⟩ = some (.int .i64 n) ∧ w'.cell? ⟨h1, 3, none⟩ = some (.pointer p)) ∧ (w'.cell? ⟨h2, 0, none⟩ = some (.int .u64 y') ∧ w'.cell? ⟨h2, 1, none⟩ = some (.int .i64 b') ∧ w'.cell? ⟨h2, 2, none⟩ = some (.int .i64 m) ∧ w'.cell? ⟨h2, 3, none⟩ = some (.pointer q)) ∧ (w'.cell? ⟨gb, 0, none⟩ = some (.string x.f0) ∧ w'.cell? ⟨gb, 1, none⟩ = some (.int .i64 x.f1) ∧ w'.cell? ⟨gb, 2, none⟩ = some (.bool x.f2))) (by kernel_rfl) ?_
        have hS0 : (fun (w' : World) => (w'.cell? ⟨h1, 0, none⟩ = some (.int .u64 y) ∧ w'.cell? ⟨h1, 1, none⟩ = some (.int .i64 b) ∧ w'.cell? ⟨h1, 2, none⟩ = some (.int .i64 n) ∧ w'.cell? ⟨h1, 3, none⟩ = some (.pointer p)) ∧ (w'.cell? ⟨h2, 0, none⟩ = some (.int .u64 y') ∧ w'.cell? ⟨h2, 1, none⟩ = some (.int .i64 b') ∧ w'.cell? ⟨h2, 2, none⟩ = some (.int .i64 m) ∧ w'.cell? ⟨h2, 3, none⟩ = some (.pointer q)) ∧ (w'.cell? ⟨gb, 0, none⟩ = some (.string x.f0) ∧ w'.cell? ⟨gb, 1, none⟩ = some (.int .i64 x.f1) ∧ w'.cell? ⟨gb, 2, none⟩ = some (.bool x.f2))) V1.drew := ⟨⟨q0, q1, q2, q3⟩, ⟨q4, q5, q6, q7⟩, x0, x1, x2⟩
        clear q0 q1 q2 q3 q4 q5 q6 q7 x0 x1 x2
        show RegL.wpAnyL _ _ _ _ _ _ 8 _ _ _
        refine RegL.wpAnyL_take (i := 0) (oi := ⟨some 54, Op.load 30 (Operand.tmp 11), _, _, _, _⟩) (v := ?vvr71) rfl (by kernel_rfl) (by kernel_rfl) (by kernel_rfl) (by kernel_rfl) (by kernel_rfl) (by kernel_rfl) (fun _ _ _ h => h) (Or.inl ⟨by rfl, ?hyr71⟩) hS0 ?restr71
        case hyr71 => ((intro w hSw; (try dsimp only at hSw); go_simp) <;> with_reducible rfl)
        try simp only [Act.put, List.setIfInBounds_toArray, List.set_cons_zero, List.set_cons_succ]
        refine RegL.wpAnyL_take (i := 1) (oi := ⟨some 55, Op.load 37 (Operand.tmp 14), _, _, _, _⟩) (v := ?vvr72) rfl (by kernel_rfl) (by kernel_rfl) (by kernel_rfl) (by kernel_rfl) (by kernel_rfl) (by kernel_rfl) (fun _ _ _ h => h) (Or.inl ⟨by rfl, ?hyr72⟩) hS0 ?restr72
        case hyr72 => ((intro w hSw; (try dsimp only at hSw); go_simp) <;> with_reducible rfl)
        try simp only [Act.put, List.setIfInBounds_toArray, List.set_cons_zero, List.set_cons_succ]
        refine RegL.wpAnyL_take (i := 3) (oi := ⟨some 57, Op.load 30 (Operand.tmp 12), _, _, _, _⟩) (v := ?vvr73) rfl (by kernel_rfl) (by kernel_rfl) (by kernel_rfl) (by kernel_rfl) (by kernel_rfl) (by kernel_rfl) (fun _ _ _ h => h) (Or.inl ⟨by rfl, ?hyr73⟩) hS0 ?restr73
        case hyr73 => ((intro w hSw; (try dsimp only at hSw); go_simp) <;> with_reducible rfl)
        try simp only [Act.put, List.setIfInBounds_toArray, List.set_cons_zero, List.set_cons_succ]
        refine RegL.wpAnyL_take (i := 4) (oi := ⟨some 58, Op.load 37 (Operand.tmp 14), _, _, _, _⟩) (v := ?vvr74) rfl (by kernel_rfl) (by kernel_rfl) (by kernel_rfl) (by kernel_rfl) (by kernel_rfl) (by kernel_rfl) (fun _ _ _ h => h) (Or.inl ⟨by rfl, ?hyr74⟩) hS0 ?restr74
        case hyr74 => ((intro w hSw; (try dsimp only at hSw); go_simp) <;> with_reducible rfl)
        try simp only [Act.put, List.setIfInBounds_toArray, List.set_cons_zero, List.set_cons_succ]
        refine RegL.wpAnyL_ready (rs := [2]) (by kernel_rfl) (by simp) ?_
        refine RegL.AllReadyL.calm (o := ⟨some 56, Op.call { callee := Callee.value (Operand.func 20), args := #[Operand.tmp 54, Operand.tmp 55], argTypes := #[30, 37] }, _, _, _, _⟩) rfl (fun K hK => ?_) RegL.AllReadyL.nil
        go_simp
        refine (HDO.out).mono ?_
        rintro e w1 ⟨v, rfl, ⟨n', p', rfl, hm⟩, hb1⟩
        have HB1r := Lib.hid hb1; have HM := Lib.hid hm; have HB1 := Lib.hid (below_trans (w1 := World.drew V1) (Below.refl _ _).drew hb1)
        clear hm hb1
        (try dsimp only)
        refine hK.out _ _ (⟨⟨cell_below hS0.1.1 HB1r.out, cell_below hS0.1.2.1 HB1r.out, cell_below hS0.1.2.2.1 HB1r.out, cell_below hS0.1.2.2.2 HB1r.out⟩, ⟨cell_below hS0.2.1.1 HB1r.out, cell_below hS0.2.1.2.1 HB1r.out, cell_below hS0.2.1.2.2.1 HB1r.out, cell_below hS0.2.1.2.2.2 HB1r.out⟩, ⟨cell_below hS0.2.2.1 HB1r.out, cell_below hS0.2.2.2.1 HB1r.out, cell_below hS0.2.2.2.2 HB1r.out⟩⟩) (fun hS0x => ?_)
        clear hK K
        try simp only [Act.put, List.setIfInBounds_toArray, List.set_cons_zero, List.set_cons_succ]
        refine RegL.wpAnyL_ready (rs := [5]) (by kernel_rfl) (by simp) ?_
        refine RegL.AllReadyL.calm (o := ⟨some 59, Op.call { callee := Callee.value (Operand.func 20), args := #[Operand.tmp 57, Operand.tmp 58], argTypes := #[30, 37] }, _, _, _, _⟩) rfl (fun K hK => ?_) RegL.AllReadyL.nil
        go_simp
        refine (HDN.out _ HB1.out).mono ?_
        rintro e w2 ⟨v, rfl, ⟨m', q', rfl, hr⟩, hb2⟩
        have HR := Lib.hid hr; have HB2 := Lib.hid hb2
        clear hr hb2
        have HTW := Lib.hid (twm_put HT2.out HB1.out HB2.out HM.out HR.out)
        have hne : h2 ≠ h1 := fun h => HT2.out.1 h.symm
        have z0 := blk_below HT2.out.2.1 (below_trans HB1.out HB2.out)
        have z1 := blk_below HT2.out.2.2.1 (below_trans HB1.out HB2.out)
        obtain ⟨⟨e0, e1, e2, e3⟩, f0, f1, f2, f3⟩ := box4 z0
        obtain ⟨⟨r0, r1, r2, r3⟩, s0, s1, s2, s3⟩ := box4 (put4_far z1 hne (.int .u64 y) (.int .i64 b) (.int .i64 n') (.pointer p'))
        clear z0 z1
        (try dsimp only)
        refine hK.out _ _ (⟨⟨cell_below hS0x.1.1 HB2.out, cell_below hS0x.1.2.1 HB2.out, cell_below hS0x.1.2.2.1 HB2.out, cell_below hS0x.1.2.2.2 HB2.out⟩, ⟨cell_below hS0x.2.1.1 HB2.out, cell_below hS0x.2.1.2.1 HB2.out, cell_below hS0x.2.1.2.2.1 HB2.out, cell_below hS0x.2.1.2.2.2 HB2.out⟩, ⟨cell_below hS0x.2.2.1 HB2.out, cell_below hS0x.2.2.2.1 HB2.out, cell_below hS0x.2.2.2.2 HB2.out⟩⟩) (fun hS0xx => ?_)
        clear hK K
        try simp only [Act.put, List.setIfInBounds_toArray, List.set_cons_zero, List.set_cons_succ]
        refine RegL.wpAnyL_ready (rs := [6]) (by kernel_rfl) (by simp) ?_
        refine RegL.AllReadyL.late (o := ⟨none, Op.store 30 (Operand.tmp 11) (Operand.tmp 56), _, _, _, _⟩) rfl (by kernel_rfl) (fun K hK => ?_) RegL.AllReadyL.nil
        go_simp
        refine hK.out _ _ ?_
        clear hK K
        try simp only [Act.put, List.setIfInBounds_toArray, List.set_cons_zero, List.set_cons_succ]
        refine RegL.wpAnyL_ready (rs := [7]) (by kernel_rfl) (by simp) ?_
        refine RegL.AllReadyL.late (o := ⟨none, Op.store 30 (Operand.tmp 12) (Operand.tmp 59), _, _, _, _⟩) rfl (by kernel_rfl) (fun K hK => ?_) RegL.AllReadyL.nil
        go_simp
        refine hK.out _ _ ?_
        clear hK K
        try simp only [Act.put, List.setIfInBounds_toArray, List.set_cons_zero, List.set_cons_succ]
        refine RegL.wpAnyL_done (by kernel_rfl) ?_ _
        refine NoPanic.normal ?_
        (go_wp2_with fail)
        go_roundg gk
        case measure => omega
        case rel =>
          have hLn : (doL L (o1 x)).length ≤ i + 1 := Nat.le_trans (doL_length L _ HSR.out.1) (by omega)
          show ApI _ _ _ _ _ _ _ _ _ _ _ _ _ _
          exact ⟨i + 1, _, _, _, _, _, by first | rfl | (push_cast; rfl), by omega, hLn, HTW.out, put8_below (below_trans HBV.out (below_trans HB1.out HB2.out)) HL1.out HL2.out _ _ _ _ _ _ _ _⟩
      · have hLn : L.length ≤ 120 := by omega
        have HTW := Lib.hid hTw
        have HBR := Lib.hid hB
        have HOR := Lib.hid (blk_below HOV.out hB)
        clear hTw hB
        obtain ⟨⟨q0, q1, q2, q3⟩, -⟩ := box4 HTW.out.2.1
        obtain ⟨⟨q4, q5, q6, q7⟩, -⟩ := box4 HTW.out.2.2.1
        obtain ⟨⟨x0, x1, x2⟩, -⟩ := box3 HOR.out
        go_upto_region 9 with fail
        have hLl : L.length ≤ 1000 := by omega
        have HDO := Lib.hid (fun V' (hV : Below wr.heap.size wr V') => does_mv HY.out HBE.out (HTW.out.2.2.2.1.bound.below hV) hLl (o1 o) (Nat.le_trans HKO.out (by decide)) (HT.out.below (below_trans HVW.out (below_trans HBR.out hV))))
        have HDN := Lib.hid (fun V' (hV : Below wr.heap.size wr V') => does_mv HY2.out HBE2.out (HTW.out.2.2.2.2.bound.below hV) hLl (o1 o) (Nat.le_trans HKO.out (by decide)) (HT.out.below (below_trans HVW.out (below_trans HBR.out hV))))
        go_cut [15, 16] from 15 (fun s15 s16 wx => ∃ h3 h4 : Nat, s15 = .pointer (some ⟨h3, 0, none⟩) ∧ s16 = .pointer (some ⟨h4, 0, none⟩) ∧ Aside (P9 c d wr h3 h4 y b y' b' (doL L (o1 o)) wx))
        case first =>
            refine wp_region_noPanic ?_
            refine RegL.wp_region_late [8, 9] (fun (w' : World) => (w'.cell? ⟨h1, 0, none⟩ = some (.int .u64 y) ∧ w'.cell? ⟨h1, 1, none⟩ = some (.int .i64 b) ∧ w'.cell? ⟨h1, 2, none⟩ = some (.int .i64 n) ∧ w'.cell? ⟨h1, 3, none⟩ = some (.pointer p)) ∧ (w'.cell? ⟨h2, 0, none⟩ = some (.int .u64 y') ∧ w'.cell? ⟨h2, 1, none⟩ = some (.int .i64 b') ∧ w'.cell? ⟨h2, 2, none⟩ = some (.int .i64 m) ∧ w'.cell? ⟨h2, 3, none⟩ = some (.pointer q)) ∧ (w'.cell? ⟨(W.heap.size + 1 + 1), 0, none⟩ = some (.string o.f0) ∧ w'.cell? ⟨(W.heap.size + 1 + 1), 1, none⟩ = some (.int .i64 o.f1) ∧ w'.cell? ⟨(W.heap.size + 1 + 1), 2, none⟩ = some (.bool o.f2))) (by kernel_rfl) ?_
            have hS0 : (fun (w' : World) => (w'.cell? ⟨h1, 0, none⟩ = some (.int .u64 y) ∧ w'.cell? ⟨h1, 1, none⟩ = some (.int .i64 b) ∧ w'.cell? ⟨h1, 2, none⟩ = some (.int .i64 n) ∧ w'.cell? ⟨h1, 3, none⟩ = some (.pointer p)) ∧ (w'.cell? ⟨h2, 0, none⟩ = some (.int .u64 y') ∧ w'.cell? ⟨h2, 1, none⟩ = some (.int .i64 b') ∧ w'.cell? ⟨h2, 2, none⟩ = some (.int .i64 m) ∧ w'.cell? ⟨h2, 3, none⟩ = some (.pointer q)) ∧ (w'.cell? ⟨(W.heap.size + 1 + 1), 0, none⟩ = some (.string o.f0) ∧ w'.cell? ⟨(W.heap.size + 1 + 1), 1, none⟩ = some (.int .i64 o.f1) ∧ w'.cell? ⟨(W.heap.size + 1 + 1), 2, none⟩ = some (.bool o.f2))) wr.drew := ⟨⟨q0, q1, q2, q3⟩, ⟨q4, q5, q6, q7⟩, x0, x1, x2⟩
            have HV_ := Lib.hid ((Below.refl wr.heap.size wr).drew)
            have hz_ : wr.heap.size ≤ wr.drew.heap.size := Nat.le_refl _
            have Z_ := Lib.hid hz_
            clear hz_
            show RegL.wpAnyL _ _ _ _ _ _ 10 _ _ _
            generalize wr.drew = V0 at hS0 HV_ Z_ ⊢
            refine RegL.wpAnyL_take (i := 0) (oi := ⟨some 61, Op.load 30 (Operand.tmp 11), _, _, _, _⟩) (v := ?vvr91) rfl (by kernel_rfl) (by kernel_rfl) (by kernel_rfl) (by kernel_rfl) (by kernel_rfl) (by kernel_rfl) (fun _ _ _ h => h) (Or.inl ⟨by rfl, ?hyr91⟩) hS0 ?restr91
            case hyr91 => ((intro w hSw; (try dsimp only at hSw); go_simp) <;> with_reducible rfl)
            try simp only [Act.put, List.setIfInBounds_toArray, List.set_cons_zero, List.set_cons_succ]
            refine RegL.wpAnyL_take (i := 1) (oi := ⟨some 62, Op.load 37 (Operand.tmp 8), _, _, _, _⟩) (v := ?vvr92) rfl (by kernel_rfl) (by kernel_rfl) (by kernel_rfl) (by kernel_rfl) (by kernel_rfl) (by kernel_rfl) (fun _ _ _ h => h) (Or.inl ⟨by rfl, ?hyr92⟩) hS0 ?restr92
            case hyr92 => ((intro w hSw; (try dsimp only at hSw); go_simp) <;> with_reducible rfl)
            try simp only [Act.put, List.setIfInBounds_toArray, List.set_cons_zero, List.set_cons_succ]
            refine RegL.wpAnyL_take (i := 3) (oi := ⟨some 64, Op.load 30 (Operand.tmp 12), _, _, _, _⟩) (v := ?vvr93) rfl (by kernel_rfl) (by kernel_rfl) (by kernel_rfl) (by kernel_rfl) (by kernel_rfl) (by kernel_rfl) (fun _ _ _ h => h) (Or.inl ⟨by rfl, ?hyr93⟩) hS0 ?restr93
            case hyr93 => ((intro w hSw; (try dsimp only at hSw); go_simp) <;> with_reducible rfl)
            try simp only [Act.put, List.setIfInBounds_toArray, List.set_cons_zero, List.set_cons_succ]
            refine RegL.wpAnyL_take (i := 4) (oi := ⟨some 65, Op.load 37 (Operand.tmp 8), _, _, _, _⟩) (v := ?vvr94) rfl (by kernel_rfl) (by kernel_rfl) (by kernel_rfl) (by kernel_rfl) (by kernel_rfl) (by kernel_rfl) (fun _ _ _ h => h) (Or.inl ⟨by rfl, ?hyr94⟩) hS0 ?restr94
            case hyr94 => ((intro w hSw; (try dsimp only at hSw); go_simp) <;> with_reducible rfl)
            try simp only [Act.put, List.setIfInBounds_toArray, List.set_cons_zero, List.set_cons_succ]
            refine RegL.wpAnyL_ready (rs := [2, 6, 7]) (by kernel_rfl) (by simp) ?_
            refine RegL.AllReadyL.calm (o := ⟨some 63, Op.call { callee := Callee.value (Operand.func 20), args := #[Operand.tmp 61, Operand.tmp 62], argTypes := #[30, 37] }, _, _, _, _⟩) rfl (fun K hK => ?_) ?_
            · go_simp
              refine (HDO.out _ HV_.out).mono ?_
              rintro e w_2 ⟨v, rfl, ⟨n', p', rfl, hm⟩, hb⟩
              have HE_2 := Lib.hid hb
              clear hb
              have MP_2 := Lib.hid (fp_of (fun x hx => hx.2) hm)
              clear hm
              have Z_2 := Lib.hid HE_2.out.size
              have HV_2 := Lib.hid (below_trans HV_.out HE_2.out)
              (try dsimp only)
              refine hK.out _ _ (⟨⟨cell_below hS0.1.1 HE_2.out, cell_below hS0.1.2.1 HE_2.out, cell_below hS0.1.2.2.1 HE_2.out, cell_below hS0.1.2.2.2 HE_2.out⟩, ⟨cell_below hS0.2.1.1 HE_2.out, cell_below hS0.2.1.2.1 HE_2.out, cell_below hS0.2.1.2.2.1 HE_2.out, cell_below hS0.2.1.2.2.2 HE_2.out⟩, ⟨cell_below hS0.2.2.1 HE_2.out, cell_below hS0.2.2.2.1 HE_2.out, cell_below hS0.2.2.2.2 HE_2.out⟩⟩) (fun hS0x => ?_)
              clear hK K
              try simp only [Act.put, List.setIfInBounds_toArray, List.set_cons_zero, List.set_cons_succ]
              refine RegL.wpAnyL_ready (rs := [5, 6, 7]) (by kernel_rfl) (by simp) ?_
              refine RegL.AllReadyL.calm (o := ⟨some 66, Op.call { callee := Callee.value (Operand.func 20), args := #[Operand.tmp 64, Operand.tmp 65], argTypes := #[30, 37] }, _, _, _, _⟩) rfl (fun K hK => ?_) ?_
              · go_simp
                refine (HDN.out _ HV_2.out).mono ?_
                rintro e w_25 ⟨v, rfl, ⟨m', q', rfl, hm⟩, hb⟩
                have HE_25 := Lib.hid hb
                clear hb
                have MQ_25 := Lib.hid (fp_of (fun x hx => hx.2) hm)
                clear hm
                have Z_25 := Lib.hid HE_25.out.size
                have HV_25 := Lib.hid (below_trans HV_2.out HE_25.out)
                have MP_25 := Lib.hid (MP_2.out.below HE_25.out)
                (try dsimp only)
                refine hK.out _ _ (⟨⟨cell_below hS0x.1.1 HE_25.out, cell_below hS0x.1.2.1 HE_25.out, cell_below hS0x.1.2.2.1 HE_25.out, cell_below hS0x.1.2.2.2 HE_25.out⟩, ⟨cell_below hS0x.2.1.1 HE_25.out, cell_below hS0x.2.1.2.1 HE_25.out, cell_below hS0x.2.1.2.2.1 HE_25.out, cell_below hS0x.2.1.2.2.2 HE_25.out⟩, ⟨cell_below hS0x.2.2.1 HE_25.out, cell_below hS0x.2.2.2.1 HE_25.out, cell_below hS0x.2.2.2.2 HE_25.out⟩⟩) (fun hS0xx => ?_)
                clear hK K
                try simp only [Act.put, List.setIfInBounds_toArray, List.set_cons_zero, List.set_cons_succ]
                refine RegL.wpAnyL_ready (rs := [6, 7]) (by kernel_rfl) (by simp) ?_
                refine RegL.AllReadyL.calm (o := ⟨some 15, Op.alloc 30, _, _, _, _⟩) rfl (fun K hK => ?_) ?_
                · go_simp
                  have hb := (Below.refl w_25.heap.size w_25).alloc (Nat.le_refl _) (.cells #[.int .u64 0, .int .i64 0, .int .i64 0, .pointer none] MT)
                  have hB := blk_new w_25 (.cells #[.int .u64 0, .int .i64 0, .int .i64 0, .pointer none] MT)
                  have hz : (w_25.alloc (.cells #[.int .u64 0, .int .i64 0, .int .i64 0, .pointer none] MT)).heap.size = w_25.heap.size + 1 := by simp
                  obtain ⟨h3, hh⟩ : ∃ h, h = w_25.heap.size := ⟨_, rfl⟩
                  have Xh3_256 := Lib.hid hh
                  rw [← hh] at hB ⊢
                  clear hh
                  generalize w_25.alloc (.cells #[.int .u64 0, .int .i64 0, .int .i64 0, .pointer none] MT) = w_256 at hb hB hz ⊢
                  have HE_256 := Lib.hid hb; have Bh3_256 := Lib.hid hB; have Y_256 := Lib.hid hz
                  clear hb hB hz
                  have Z_256 := Lib.hid HE_256.out.size
                  have HV_256 := Lib.hid (below_trans HV_25.out HE_256.out)
                  have MP_256 := Lib.hid (MP_25.out.below HE_256.out)
                  have MQ_256 := Lib.hid (MQ_25.out.below HE_256.out)
                  (try dsimp only)
                  refine hK.out _ _ (⟨⟨cell_below hS0xx.1.1 HE_256.out, cell_below hS0xx.1.2.1 HE_256.out, cell_below hS0xx.1.2.2.1 HE_256.out, cell_below hS0xx.1.2.2.2 HE_256.out⟩, ⟨cell_below hS0xx.2.1.1 HE_256.out, cell_below hS0xx.2.1.2.1 HE_256.out, cell_below hS0xx.2.1.2.2.1 HE_256.out, cell_below hS0xx.2.1.2.2.2 HE_256.out⟩, ⟨cell_below hS0xx.2.2.1 HE_256.out, cell_below hS0xx.2.2.2.1 HE_256.out, cell_below hS0xx.2.2.2.2 HE_256.out⟩⟩) (fun hS0xxx => ?_)
                  clear hK K
                  try simp only [Act.put, List.setIfInBounds_toArray, List.set_cons_zero, List.set_cons_succ]
                  refine RegL.wpAnyL_ready (rs := [7]) (by kernel_rfl) (by simp) ?_
                  refine RegL.AllReadyL.calm (o := ⟨some 16, Op.alloc 30, _, _, _, _⟩) rfl (fun K hK => ?_) RegL.AllReadyL.nil
                  go_simp
                  have hb := (Below.refl w_256.heap.size w_256).alloc (Nat.le_refl _) (.cells #[.int .u64 0, .int .i64 0, .int .i64 0, .pointer none] MT)
                  have hB := blk_new w_256 (.cells #[.int .u64 0, .int .i64 0, .int .i64 0, .pointer none] MT)
                  have hz : (w_256.alloc (.cells #[.int .u64 0, .int .i64 0, .int .i64 0, .pointer none] MT)).heap.size = w_256.heap.size + 1 := by simp
                  obtain ⟨h4, hh⟩ : ∃ h, h = w_256.heap.size := ⟨_, rfl⟩
                  have Xh4_2567 := Lib.hid hh
                  rw [← hh] at hB ⊢
                  clear hh
                  generalize w_256.alloc (.cells #[.int .u64 0, .int .i64 0, .int .i64 0, .pointer none] MT) = w_2567 at hb hB hz ⊢
                  have HE_2567 := Lib.hid hb; have Bh4_2567 := Lib.hid hB; have Y_2567 := Lib.hid hz
                  clear hb hB hz
                  have Z_2567 := Lib.hid HE_2567.out.size
                  have HV_2567 := Lib.hid (below_trans HV_256.out HE_2567.out)
                  have MP_2567 := Lib.hid (MP_256.out.below HE_2567.out)
                  have MQ_2567 := Lib.hid (MQ_256.out.below HE_2567.out)
                  have Bh3_2567 := Lib.hid (blk_below Bh3_256.out HE_2567.out)
                  (try dsimp only)
                  refine hK.out _ _ (⟨⟨cell_below hS0xxx.1.1 HE_2567.out, cell_below hS0xxx.1.2.1 HE_2567.out, cell_below hS0xxx.1.2.2.1 HE_2567.out, cell_below hS0xxx.1.2.2.2 HE_2567.out⟩, ⟨cell_below hS0xxx.2.1.1 HE_2567.out, cell_below hS0xxx.2.1.2.1 HE_2567.out, cell_below hS0xxx.2.1.2.2.1 HE_2567.out, cell_below hS0xxx.2.1.2.2.2 HE_2567.out⟩, ⟨cell_below hS0xxx.2.2.1 HE_2567.out, cell_below hS0xxx.2.2.2.1 HE_2567.out, cell_below hS0xxx.2.2.2.2 HE_2567.out⟩⟩) (fun hS0xxxx => ?_)
                  clear hK K
                  try simp only [Act.put, List.setIfInBounds_toArray, List.set_cons_zero, List.set_cons_succ]
                  refine RegL.wpAnyL_ready (rs := [8]) (by kernel_rfl) (by simp) ?_
                  refine RegL.AllReadyL.late (o := ⟨none, Op.store 30 (Operand.tmp 15) (Operand.tmp 63), _, _, _, _⟩) rfl (by kernel_rfl) (fun K hK => ?_) RegL.AllReadyL.nil
                  have hne : h3 ≠ h4 := by have z0 := Z_.out; have z_2 := Z_2.out; have z_25 := Z_25.out; have z_256 := Z_256.out; have y_256 := Y_256.out; have x_256 := Xh3_256.out; have z_2567 := Z_2567.out; have y_2567 := Y_2567.out; have x_2567 := Xh4_2567.out; omega
                  have hs1 : wr.heap.size ≤ h3 := by have z0 := Z_.out; have z_2 := Z_2.out; have z_25 := Z_25.out; have z_256 := Z_256.out; have y_256 := Y_256.out; have x_256 := Xh3_256.out; have z_2567 := Z_2567.out; have y_2567 := Y_2567.out; have x_2567 := Xh4_2567.out; omega
                  have hs2 : wr.heap.size ≤ h4 := by have z0 := Z_.out; have z_2 := Z_2.out; have z_25 := Z_25.out; have z_256 := Z_256.out; have y_256 := Y_256.out; have x_256 := Xh3_256.out; have z_2567 := Z_2567.out; have y_2567 := Y_2567.out; have x_2567 := Xh4_2567.out; omega
                  have nph3 : ¬ Fp wr.heap.size V0.heap.size w_2.heap.size h3 := by have z0 := Z_.out; have z_2 := Z_2.out; have z_25 := Z_25.out; have z_256 := Z_256.out; have y_256 := Y_256.out; have x_256 := Xh3_256.out; have z_2567 := Z_2567.out; have y_2567 := Y_2567.out; have x_2567 := Xh4_2567.out; unfold Fp; omega
                  have nph4 : ¬ Fp wr.heap.size V0.heap.size w_2.heap.size h4 := by have z0 := Z_.out; have z_2 := Z_2.out; have z_25 := Z_25.out; have z_256 := Z_256.out; have y_256 := Y_256.out; have x_256 := Xh3_256.out; have z_2567 := Z_2567.out; have y_2567 := Y_2567.out; have x_2567 := Xh4_2567.out; unfold Fp; omega
                  have nqh3 : ¬ Fp wr.heap.size w_2.heap.size w_25.heap.size h3 := by have z0 := Z_.out; have z_2 := Z_2.out; have z_25 := Z_25.out; have z_256 := Z_256.out; have y_256 := Y_256.out; have x_256 := Xh3_256.out; have z_2567 := Z_2567.out; have y_2567 := Y_2567.out; have x_2567 := Xh4_2567.out; unfold Fp; omega
                  have nqh4 : ¬ Fp wr.heap.size w_2.heap.size w_25.heap.size h4 := by have z0 := Z_.out; have z_2 := Z_2.out; have z_25 := Z_25.out; have z_256 := Z_256.out; have y_256 := Y_256.out; have x_256 := Xh3_256.out; have z_2567 := Z_2567.out; have y_2567 := Y_2567.out; have x_2567 := Xh4_2567.out; unfold Fp; omega
                  have HP := Lib.hid (show P9 c d wr h3 h4 y b y' b' (doL L (o1 o)) _ from ⟨_, _, _, _, p3_of Bh3_2567.out Bh4_2567.out hne hs1 hs2 HV_2567.out y b n' p' y' b' m' q', (mapv4_far (mapv4_far MP_2567.out nph3 _ _ _ _) nph4 _ _ _ _).mono fun _ _ => trivial, (mapv4_far (mapv4_far MQ_2567.out nqh3 _ _ _ _) nqh4 _ _ _ _).mono fun _ _ => trivial⟩)
                  clear nph3 nph4 nqh3 nqh4
                  have hne2 : h4 ≠ h3 := fun h => hne h.symm
                  obtain ⟨⟨e0, e1, e2, e3⟩, f0, f1, f2, f3⟩ := box4 Bh3_2567.out
                  obtain ⟨⟨r0, r1, r2, r3⟩, s0, s1, s2, s3⟩ := box4 (put4_far Bh4_2567.out hne2 (.int .u64 y) (.int .i64 b) (.int .i64 n') (.pointer p'))
                  go_simp
                  refine hK.out _ _ ?_
                  clear hK K
                  try simp only [Act.put, List.setIfInBounds_toArray, List.set_cons_zero, List.set_cons_succ]
                  refine RegL.wpAnyL_ready (rs := [9]) (by kernel_rfl) (by simp) ?_
                  refine RegL.AllReadyL.late (o := ⟨none, Op.store 30 (Operand.tmp 16) (Operand.tmp 66), _, _, _, _⟩) rfl (by kernel_rfl) (fun K hK => ?_) RegL.AllReadyL.nil
                  go_simp
                  refine hK.out _ _ ?_
                  clear hK K
                  try simp only [Act.put, List.setIfInBounds_toArray, List.set_cons_zero, List.set_cons_succ]
                  refine RegL.wpAnyL_done (by kernel_rfl) ?_ _
                  refine NoPanic.normal ?_
                  (go_wp2_with fail)
                  go_meet
                  exact ⟨_, _, rfl, rfl, HP⟩
                refine RegL.AllReadyL.calm (o := ⟨some 16, Op.alloc 30, _, _, _, _⟩) rfl (fun K hK => ?_) RegL.AllReadyL.nil
                go_simp
                have hb := (Below.refl w_25.heap.size w_25).alloc (Nat.le_refl _) (.cells #[.int .u64 0, .int .i64 0, .int .i64 0, .pointer none] MT)
                have hB := blk_new w_25 (.cells #[.int .u64 0, .int .i64 0, .int .i64 0, .pointer none] MT)
                have hz : (w_25.alloc (.cells #[.int .u64 0, .int .i64 0, .int .i64 0, .pointer none] MT)).heap.size = w_25.heap.size + 1 := by simp
                obtain ⟨h4, hh⟩ : ∃ h, h = w_25.heap.size := ⟨_, rfl⟩
                have Xh4_257 := Lib.hid hh
                rw [← hh] at hB ⊢
                clear hh
                generalize w_25.alloc (.cells #[.int .u64 0, .int .i64 0, .int .i64 0, .pointer none] MT) = w_257 at hb hB hz ⊢
                have HE_257 := Lib.hid hb; have Bh4_257 := Lib.hid hB; have Y_257 := Lib.hid hz
                clear hb hB hz
                have Z_257 := Lib.hid HE_257.out.size
                have HV_257 := Lib.hid (below_trans HV_25.out HE_257.out)
                have MP_257 := Lib.hid (MP_25.out.below HE_257.out)
                have MQ_257 := Lib.hid (MQ_25.out.below HE_257.out)
                (try dsimp only)
                refine hK.out _ _ (⟨⟨cell_below hS0xx.1.1 HE_257.out, cell_below hS0xx.1.2.1 HE_257.out, cell_below hS0xx.1.2.2.1 HE_257.out, cell_below hS0xx.1.2.2.2 HE_257.out⟩, ⟨cell_below hS0xx.2.1.1 HE_257.out, cell_below hS0xx.2.1.2.1 HE_257.out, cell_below hS0xx.2.1.2.2.1 HE_257.out, cell_below hS0xx.2.1.2.2.2 HE_257.out⟩, ⟨cell_below hS0xx.2.2.1 HE_257.out, cell_below hS0xx.2.2.2.1 HE_257.out, cell_below hS0xx.2.2.2.2 HE_257.out⟩⟩) (fun hS0xxx => ?_)
                clear hK K
                try simp only [Act.put, List.setIfInBounds_toArray, List.set_cons_zero, List.set_cons_succ]
                refine RegL.wpAnyL_ready (rs := [6]) (by kernel_rfl) (by simp) ?_
                refine RegL.AllReadyL.calm (o := ⟨some 15, Op.alloc 30, _, _, _, _⟩) rfl (fun K hK => ?_) RegL.AllReadyL.nil
                go_simp
                have hb := (Below.refl w_257.heap.size w_257).alloc (Nat.le_refl _) (.cells #[.int .u64 0, .int .i64 0, .int .i64 0, .pointer none] MT)
                have hB := blk_new w_257 (.cells #[.int .u64 0, .int .i64 0, .int .i64 0, .pointer none] MT)
                have hz : (w_257.alloc (.cells #[.int .u64 0, .int .i64 0, .int .i64 0, .pointer none] MT)).heap.size = w_257.heap.size + 1 := by simp
                obtain ⟨h3, hh⟩ : ∃ h, h = w_257.heap.size := ⟨_, rfl⟩
                have Xh3_2576 := Lib.hid hh
                rw [← hh] at hB ⊢
                clear hh
                generalize w_257.alloc (.cells #[.int .u64 0, .int .i64 0, .int .i64 0, .pointer none] MT) = w_2576 at hb hB hz ⊢
                have HE_2576 := Lib.hid hb; have Bh3_2576 := Lib.hid hB; have Y_2576 := Lib.hid hz
                clear hb hB hz
                have Z_2576 := Lib.hid HE_2576.out.size
                have HV_2576 := Lib.hid (below_trans HV_257.out HE_2576.out)
                have MP_2576 := Lib.hid (MP_257.out.below HE_2576.out)
                have MQ_2576 := Lib.hid (MQ_257.out.below HE_2576.out)
                have Bh4_2576 := Lib.hid (blk_below Bh4_257.out HE_2576.out)
                (try dsimp only)
                refine hK.out _ _ (⟨⟨cell_below hS0xxx.1.1 HE_2576.out, cell_below hS0xxx.1.2.1 HE_2576.out, cell_below hS0xxx.1.2.2.1 HE_2576.out, cell_below hS0xxx.1.2.2.2 HE_2576.out⟩, ⟨cell_below hS0xxx.2.1.1 HE_2576.out, cell_below hS0xxx.2.1.2.1 HE_2576.out, cell_below hS0xxx.2.1.2.2.1 HE_2576.out, cell_below hS0xxx.2.1.2.2.2 HE_2576.out⟩, ⟨cell_below hS0xxx.2.2.1 HE_2576.out, cell_below hS0xxx.2.2.2.1 HE_2576.out, cell_below hS0xxx.2.2.2.2 HE_2576.out⟩⟩) (fun hS0xxxx => ?_)
                clear hK K
                try simp only [Act.put, List.setIfInBounds_toArray, List.set_cons_zero, List.set_cons_succ]
                refine RegL.wpAnyL_ready (rs := [8]) (by kernel_rfl) (by simp) ?_
                refine RegL.AllReadyL.late (o := ⟨none, Op.store 30 (Operand.tmp 15) (Operand.tmp 63), _, _, _, _⟩) rfl (by kernel_rfl) (fun K hK => ?_) RegL.AllReadyL.nil
                have hne : h3 ≠ h4 := by have z0 := Z_.out; have z_2 := Z_2.out; have z_25 := Z_25.out; have z_257 := Z_257.out; have y_257 := Y_257.out; have x_257 := Xh4_257.out; have z_2576 := Z_2576.out; have y_2576 := Y_2576.out; have x_2576 := Xh3_2576.out; omega
                have hs1 : wr.heap.size ≤ h3 := by have z0 := Z_.out; have z_2 := Z_2.out; have z_25 := Z_25.out; have z_257 := Z_257.out; have y_257 := Y_257.out; have x_257 := Xh4_257.out; have z_2576 := Z_2576.out; have y_2576 := Y_2576.out; have x_2576 := Xh3_2576.out; omega
                have hs2 : wr.heap.size ≤ h4 := by have z0 := Z_.out; have z_2 := Z_2.out; have z_25 := Z_25.out; have z_257 := Z_257.out; have y_257 := Y_257.out; have x_257 := Xh4_257.out; have z_2576 := Z_2576.out; have y_2576 := Y_2576.out; have x_2576 := Xh3_2576.out; omega
                have nph3 : ¬ Fp wr.heap.size V0.heap.size w_2.heap.size h3 := by have z0 := Z_.out; have z_2 := Z_2.out; have z_25 := Z_25.out; have z_257 := Z_257.out; have y_257 := Y_257.out; have x_257 := Xh4_257.out; have z_2576 := Z_2576.out; have y_2576 := Y_2576.out; have x_2576 := Xh3_2576.out; unfold Fp; omega
                have nph4 : ¬ Fp wr.heap.size V0.heap.size w_2.heap.size h4 := by have z0 := Z_.out; have z_2 := Z_2.out; have z_25 := Z_25.out; have z_257 := Z_257.out; have y_257 := Y_257.out; have x_257 := Xh4_257.out; have z_2576 := Z_2576.out; have y_2576 := Y_2576.out; have x_2576 := Xh3_2576.out; unfold Fp; omega
                have nqh3 : ¬ Fp wr.heap.size w_2.heap.size w_25.heap.size h3 := by have z0 := Z_.out; have z_2 := Z_2.out; have z_25 := Z_25.out; have z_257 := Z_257.out; have y_257 := Y_257.out; have x_257 := Xh4_257.out; have z_2576 := Z_2576.out; have y_2576 := Y_2576.out; have x_2576 := Xh3_2576.out; unfold Fp; omega
                have nqh4 : ¬ Fp wr.heap.size w_2.heap.size w_25.heap.size h4 := by have z0 := Z_.out; have z_2 := Z_2.out; have z_25 := Z_25.out; have z_257 := Z_257.out; have y_257 := Y_257.out; have x_257 := Xh4_257.out; have z_2576 := Z_2576.out; have y_2576 := Y_2576.out; have x_2576 := Xh3_2576.out; unfold Fp; omega
                have HP := Lib.hid (show P9 c d wr h3 h4 y b y' b' (doL L (o1 o)) _ from ⟨_, _, _, _, p3_of Bh3_2576.out Bh4_2576.out hne hs1 hs2 HV_2576.out y b n' p' y' b' m' q', (mapv4_far (mapv4_far MP_2576.out nph3 _ _ _ _) nph4 _ _ _ _).mono fun _ _ => trivial, (mapv4_far (mapv4_far MQ_2576.out nqh3 _ _ _ _) nqh4 _ _ _ _).mono fun _ _ => trivial⟩)
                clear nph3 nph4 nqh3 nqh4
                have hne2 : h4 ≠ h3 := fun h => hne h.symm
                obtain ⟨⟨e0, e1, e2, e3⟩, f0, f1, f2, f3⟩ := box4 Bh3_2576.out
                obtain ⟨⟨r0, r1, r2, r3⟩, s0, s1, s2, s3⟩ := box4 (put4_far Bh4_2576.out hne2 (.int .u64 y) (.int .i64 b) (.int .i64 n') (.pointer p'))
                go_simp
                refine hK.out _ _ ?_
                clear hK K
                try simp only [Act.put, List.setIfInBounds_toArray, List.set_cons_zero, List.set_cons_succ]
                refine RegL.wpAnyL_ready (rs := [9]) (by kernel_rfl) (by simp) ?_
                refine RegL.AllReadyL.late (o := ⟨none, Op.store 30 (Operand.tmp 16) (Operand.tmp 66), _, _, _, _⟩) rfl (by kernel_rfl) (fun K hK => ?_) RegL.AllReadyL.nil
                go_simp
                refine hK.out _ _ ?_
                clear hK K
                try simp only [Act.put, List.setIfInBounds_toArray, List.set_cons_zero, List.set_cons_succ]
                refine RegL.wpAnyL_done (by kernel_rfl) ?_ _
                refine NoPanic.normal ?_
                (go_wp2_with fail)
                go_meet
                exact ⟨_, _, rfl, rfl, HP⟩
              refine RegL.AllReadyL.calm (o := ⟨some 15, Op.alloc 30, _, _, _, _⟩) rfl (fun K hK => ?_) ?_
              · go_simp
                have hb := (Below.refl w_2.heap.size w_2).alloc (Nat.le_refl _) (.cells #[.int .u64 0, .int .i64 0, .int .i64 0, .pointer none] MT)
                have hB := blk_new w_2 (.cells #[.int .u64 0, .int .i64 0, .int .i64 0, .pointer none] MT)
                have hz : (w_2.alloc (.cells #[.int .u64 0, .int .i64 0, .int .i64 0, .pointer none] MT)).heap.size = w_2.heap.size + 1 := by simp
                obtain ⟨h3, hh⟩ : ∃ h, h = w_2.heap.size := ⟨_, rfl⟩
                have Xh3_26 := Lib.hid hh
                rw [← hh] at hB ⊢
                clear hh
                generalize w_2.alloc (.cells #[.int .u64 0, .int .i64 0, .int .i64 0, .pointer none] MT) = w_26 at hb hB hz ⊢
                have HE_26 := Lib.hid hb; have Bh3_26 := Lib.hid hB; have Y_26 := Lib.hid hz
                clear hb hB hz
                have Z_26 := Lib.hid HE_26.out.size
                have HV_26 := Lib.hid (below_trans HV_2.out HE_26.out)
                have MP_26 := Lib.hid (MP_2.out.below HE_26.out)
                (try dsimp only)
                refine hK.out _ _ (⟨⟨cell_below hS0x.1.1 HE_26.out, cell_below hS0x.1.2.1 HE_26.out, cell_below hS0x.1.2.2.1 HE_26.out, cell_below hS0x.1.2.2.2 HE_26.out⟩, ⟨cell_below hS0x.2.1.1 HE_26.out, cell_below hS0x.2.1.2.1 HE_26.out, cell_below hS0x.2.1.2.2.1 HE_26.out, cell_below hS0x.2.1.2.2.2 HE_26.out⟩, ⟨cell_below hS0x.2.2.1 HE_26.out, cell_below hS0x.2.2.2.1 HE_26.out, cell_below hS0x.2.2.2.2 HE_26.out⟩⟩) (fun hS0xx => ?_)
                clear hK K
                try simp only [Act.put, List.setIfInBounds_toArray, List.set_cons_zero, List.set_cons_succ]
                refine RegL.wpAnyL_ready (rs := [5, 7]) (by kernel_rfl) (by simp) ?_
                refine RegL.AllReadyL.calm (o := ⟨some 66, Op.call { callee := Callee.value (Operand.func 20), args := #[Operand.tmp 64, Operand.tmp 65], argTypes := #[30, 37] }, _, _, _, _⟩) rfl (fun K hK => ?_) ?_
                · go_simp
                  refine (HDN.out _ HV_26.out).mono ?_
                  rintro e w_265 ⟨v, rfl, ⟨m', q', rfl, hm⟩, hb⟩
                  have HE_265 := Lib.hid hb
                  clear hb
                  have MQ_265 := Lib.hid (fp_of (fun x hx => hx.2) hm)
                  clear hm
                  have Z_265 := Lib.hid HE_265.out.size
                  have HV_265 := Lib.hid (below_trans HV_26.out HE_265.out)
                  have MP_265 := Lib.hid (MP_26.out.below HE_265.out)
                  have Bh3_265 := Lib.hid (blk_below Bh3_26.out HE_265.out)
                  (try dsimp only)
                  refine hK.out _ _ (⟨⟨cell_below hS0xx.1.1 HE_265.out, cell_below hS0xx.1.2.1 HE_265.out, cell_below hS0xx.1.2.2.1 HE_265.out, cell_below hS0xx.1.2.2.2 HE_265.out⟩, ⟨cell_below hS0xx.2.1.1 HE_265.out, cell_below hS0xx.2.1.2.1 HE_265.out, cell_below hS0xx.2.1.2.2.1 HE_265.out, cell_below hS0xx.2.1.2.2.2 HE_265.out⟩, ⟨cell_below hS0xx.2.2.1 HE_265.out, cell_below hS0xx.2.2.2.1 HE_265.out, cell_below hS0xx.2.2.2.2 HE_265.out⟩⟩) (fun hS0xxx => ?_)
                  clear hK K
                  try simp only [Act.put, List.setIfInBounds_toArray, List.set_cons_zero, List.set_cons_succ]
                  refine RegL.wpAnyL_ready (rs := [7]) (by kernel_rfl) (by simp) ?_
                  refine RegL.AllReadyL.calm (o := ⟨some 16, Op.alloc 30, _, _, _, _⟩) rfl (fun K hK => ?_) RegL.AllReadyL.nil
                  go_simp
                  have hb := (Below.refl w_265.heap.size w_265).alloc (Nat.le_refl _) (.cells #[.int .u64 0, .int .i64 0, .int .i64 0, .pointer none] MT)
                  have hB := blk_new w_265 (.cells #[.int .u64 0, .int .i64 0, .int .i64 0, .pointer none] MT)
                  have hz : (w_265.alloc (.cells #[.int .u64 0, .int .i64 0, .int .i64 0, .pointer none] MT)).heap.size = w_265.heap.size + 1 := by simp
                  obtain ⟨h4, hh⟩ : ∃ h, h = w_265.heap.size := ⟨_, rfl⟩
                  have Xh4_2657 := Lib.hid hh
                  rw [← hh] at hB ⊢
                  clear hh
                  generalize w_265.alloc (.cells #[.int .u64 0, .int .i64 0, .int .i64 0, .pointer none] MT) = w_2657 at hb hB hz ⊢
                  have HE_2657 := Lib.hid hb; have Bh4_2657 := Lib.hid hB; have Y_2657 := Lib.hid hz
                  clear hb hB hz
                  have Z_2657 := Lib.hid HE_2657.out.size
                  have HV_2657 := Lib.hid (below_trans HV_265.out HE_2657.out)
                  have MP_2657 := Lib.hid (MP_265.out.below HE_2657.out)
                  have Bh3_2657 := Lib.hid (blk_below Bh3_265.out HE_2657.out)
                  have MQ_2657 := Lib.hid (MQ_265.out.below HE_2657.out)
                  (try dsimp only)
                  refine hK.out _ _ (⟨⟨cell_below hS0xxx.1.1 HE_2657.out, cell_below hS0xxx.1.2.1 HE_2657.out, cell_below hS0xxx.1.2.2.1 HE_2657.out, cell_below hS0xxx.1.2.2.2 HE_2657.out⟩, ⟨cell_below hS0xxx.2.1.1 HE_2657.out, cell_below hS0xxx.2.1.2.1 HE_2657.out, cell_below hS0xxx.2.1.2.2.1 HE_2657.out, cell_below hS0xxx.2.1.2.2.2 HE_2657.out⟩, ⟨cell_below hS0xxx.2.2.1 HE_2657.out, cell_below hS0xxx.2.2.2.1 HE_2657.out, cell_below hS0xxx.2.2.2.2 HE_2657.out⟩⟩) (fun hS0xxxx => ?_)
                  clear hK K
                  try simp only [Act.put, List.setIfInBounds_toArray, List.set_cons_zero, List.set_cons_succ]
                  refine RegL.wpAnyL_ready (rs := [8]) (by kernel_rfl) (by simp) ?_
                  refine RegL.AllReadyL.late (o := ⟨none, Op.store 30 (Operand.tmp 15) (Operand.tmp 63), _, _, _, _⟩) rfl (by kernel_rfl) (fun K hK => ?_) RegL.AllReadyL.nil
                  have hne : h3 ≠ h4 := by have z0 := Z_.out; have z_2 := Z_2.out; have z_26 := Z_26.out; have y_26 := Y_26.out; have x_26 := Xh3_26.out; have z_265 := Z_265.out; have z_2657 := Z_2657.out; have y_2657 := Y_2657.out; have x_2657 := Xh4_2657.out; omega
                  have hs1 : wr.heap.size ≤ h3 := by have z0 := Z_.out; have z_2 := Z_2.out; have z_26 := Z_26.out; have y_26 := Y_26.out; have x_26 := Xh3_26.out; have z_265 := Z_265.out; have z_2657 := Z_2657.out; have y_2657 := Y_2657.out; have x_2657 := Xh4_2657.out; omega
                  have hs2 : wr.heap.size ≤ h4 := by have z0 := Z_.out; have z_2 := Z_2.out; have z_26 := Z_26.out; have y_26 := Y_26.out; have x_26 := Xh3_26.out; have z_265 := Z_265.out; have z_2657 := Z_2657.out; have y_2657 := Y_2657.out; have x_2657 := Xh4_2657.out; omega
                  have nph3 : ¬ Fp wr.heap.size V0.heap.size w_2.heap.size h3 := by have z0 := Z_.out; have z_2 := Z_2.out; have z_26 := Z_26.out; have y_26 := Y_26.out; have x_26 := Xh3_26.out; have z_265 := Z_265.out; have z_2657 := Z_2657.out; have y_2657 := Y_2657.out; have x_2657 := Xh4_2657.out; unfold Fp; omega
                  have nph4 : ¬ Fp wr.heap.size V0.heap.size w_2.heap.size h4 := by have z0 := Z_.out; have z_2 := Z_2.out; have z_26 := Z_26.out; have y_26 := Y_26.out; have x_26 := Xh3_26.out; have z_265 := Z_265.out; have z_2657 := Z_2657.out; have y_2657 := Y_2657.out; have x_2657 := Xh4_2657.out; unfold Fp; omega
                  have nqh3 : ¬ Fp wr.heap.size w_26.heap.size w_265.heap.size h3 := by have z0 := Z_.out; have z_2 := Z_2.out; have z_26 := Z_26.out; have y_26 := Y_26.out; have x_26 := Xh3_26.out; have z_265 := Z_265.out; have z_2657 := Z_2657.out; have y_2657 := Y_2657.out; have x_2657 := Xh4_2657.out; unfold Fp; omega
                  have nqh4 : ¬ Fp wr.heap.size w_26.heap.size w_265.heap.size h4 := by have z0 := Z_.out; have z_2 := Z_2.out; have z_26 := Z_26.out; have y_26 := Y_26.out; have x_26 := Xh3_26.out; have z_265 := Z_265.out; have z_2657 := Z_2657.out; have y_2657 := Y_2657.out; have x_2657 := Xh4_2657.out; unfold Fp; omega
                  have HP := Lib.hid (show P9 c d wr h3 h4 y b y' b' (doL L (o1 o)) _ from ⟨_, _, _, _, p3_of Bh3_2657.out Bh4_2657.out hne hs1 hs2 HV_2657.out y b n' p' y' b' m' q', (mapv4_far (mapv4_far MP_2657.out nph3 _ _ _ _) nph4 _ _ _ _).mono fun _ _ => trivial, (mapv4_far (mapv4_far MQ_2657.out nqh3 _ _ _ _) nqh4 _ _ _ _).mono fun _ _ => trivial⟩)
                  clear nph3 nph4 nqh3 nqh4
                  have hne2 : h4 ≠ h3 := fun h => hne h.symm
                  obtain ⟨⟨e0, e1, e2, e3⟩, f0, f1, f2, f3⟩ := box4 Bh3_2657.out
                  obtain ⟨⟨r0, r1, r2, r3⟩, s0, s1, s2, s3⟩ := box4 (put4_far Bh4_2657.out hne2 (.int .u64 y) (.int .i64 b) (.int .i64 n') (.pointer p'))
                  go_simp
                  refine hK.out _ _ ?_
                  clear hK K
                  try simp only [Act.put, List.setIfInBounds_toArray, List.set_cons_zero, List.set_cons_succ]
                  refine RegL.wpAnyL_ready (rs := [9]) (by kernel_rfl) (by simp) ?_
                  refine RegL.AllReadyL.late (o := ⟨none, Op.store 30 (Operand.tmp 16) (Operand.tmp 66), _, _, _, _⟩) rfl (by kernel_rfl) (fun K hK => ?_) RegL.AllReadyL.nil
                  go_simp
                  refine hK.out _ _ ?_
                  clear hK K
                  try simp only [Act.put, List.setIfInBounds_toArray, List.set_cons_zero, List.set_cons_succ]
                  refine RegL.wpAnyL_done (by kernel_rfl) ?_ _
                  refine NoPanic.normal ?_
                  (go_wp2_with fail)
                  go_meet
                  exact ⟨_, _, rfl, rfl, HP⟩
                refine RegL.AllReadyL.calm (o := ⟨some 16, Op.alloc 30, _, _, _, _⟩) rfl (fun K hK => ?_) RegL.AllReadyL.nil
                go_simp
                have hb := (Below.refl w_26.heap.size w_26).alloc (Nat.le_refl _) (.cells #[.int .u64 0, .int .i64 0, .int .i64 0, .pointer none] MT)
                have hB := blk_new w_26 (.cells #[.int .u64 0, .int .i64 0, .int .i64 0, .pointer none] MT)
                have hz : (w_26.alloc (.cells #[.int .u64 0, .int .i64 0, .int .i64 0, .pointer none] MT)).heap.size = w_26.heap.size + 1 := by simp
                obtain ⟨h4, hh⟩ : ∃ h, h = w_26.heap.size := ⟨_, rfl⟩
                have Xh4_267 := Lib.hid hh
                rw [← hh] at hB ⊢
                clear hh
                generalize w_26.alloc (.cells #[.int .u64 0, .int .i64 0, .int .i64 0, .pointer none] MT) = w_267 at hb hB hz ⊢
                have HE_267 := Lib.hid hb; have Bh4_267 := Lib.hid hB; have Y_267 := Lib.hid hz
                clear hb hB hz
                have Z_267 := Lib.hid HE_267.out.size
                have HV_267 := Lib.hid (below_trans HV_26.out HE_267.out)
                have MP_267 := Lib.hid (MP_26.out.below HE_267.out)
                have Bh3_267 := Lib.hid (blk_below Bh3_26.out HE_267.out)
                (try dsimp only)
                refine hK.out _ _ (⟨⟨cell_below hS0xx.1.1 HE_267.out, cell_below hS0xx.1.2.1 HE_267.out, cell_below hS0xx.1.2.2.1 HE_267.out, cell_below hS0xx.1.2.2.2 HE_267.out⟩, ⟨cell_below hS0xx.2.1.1 HE_267.out, cell_below hS0xx.2.1.2.1 HE_267.out, cell_below hS0xx.2.1.2.2.1 HE_267.out, cell_below hS0xx.2.1.2.2.2 HE_267.out⟩, ⟨cell_below hS0xx.2.2.1 HE_267.out, cell_below hS0xx.2.2.2.1 HE_267.out, cell_below hS0xx.2.2.2.2 HE_267.out⟩⟩) (fun hS0xxx => ?_)
                clear hK K
                try simp only [Act.put, List.setIfInBounds_toArray, List.set_cons_zero, List.set_cons_succ]
                refine RegL.wpAnyL_ready (rs := [5]) (by kernel_rfl) (by simp) ?_
                refine RegL.AllReadyL.calm (o := ⟨some 66, Op.call { callee := Callee.value (Operand.func 20), args := #[Operand.tmp 64, Operand.tmp 65], argTypes := #[30, 37] }, _, _, _, _⟩) rfl (fun K hK => ?_) RegL.AllReadyL.nil
                go_simp
                refine (HDN.out _ HV_267.out).mono ?_
                rintro e w_2675 ⟨v, rfl, ⟨m', q', rfl, hm⟩, hb⟩
                have HE_2675 := Lib.hid hb
                clear hb
                have MQ_2675 := Lib.hid (fp_of (fun x hx => hx.2) hm)
                clear hm
                have Z_2675 := Lib.hid HE_2675.out.size
                have HV_2675 := Lib.hid (below_trans HV_267.out HE_2675.out)
                have MP_2675 := Lib.hid (MP_267.out.below HE_2675.out)
                have Bh3_2675 := Lib.hid (blk_below Bh3_267.out HE_2675.out)
                have Bh4_2675 := Lib.hid (blk_below Bh4_267.out HE_2675.out)
                (try dsimp only)
                refine hK.out _ _ (⟨⟨cell_below hS0xxx.1.1 HE_2675.out, cell_below hS0xxx.1.2.1 HE_2675.out, cell_below hS0xxx.1.2.2.1 HE_2675.out, cell_below hS0xxx.1.2.2.2 HE_2675.out⟩, ⟨cell_below hS0xxx.2.1.1 HE_2675.out, cell_below hS0xxx.2.1.2.1 HE_2675.out, cell_below hS0xxx.2.1.2.2.1 HE_2675.out, cell_below hS0xxx.2.1.2.2.2 HE_2675.out⟩, ⟨cell_below hS0xxx.2.2.1 HE_2675.out, cell_below hS0xxx.2.2.2.1 HE_2675.out, cell_below hS0xxx.2.2.2.2 HE_2675.out⟩⟩) (fun hS0xxxx => ?_)
                clear hK K
                try simp only [Act.put, List.setIfInBounds_toArray, List.set_cons_zero, List.set_cons_succ]
                refine RegL.wpAnyL_ready (rs := [8]) (by kernel_rfl) (by simp) ?_
                refine RegL.AllReadyL.late (o := ⟨none, Op.store 30 (Operand.tmp 15) (Operand.tmp 63), _, _, _, _⟩) rfl (by kernel_rfl) (fun K hK => ?_) RegL.AllReadyL.nil
                have hne : h3 ≠ h4 := by have z0 := Z_.out; have z_2 := Z_2.out; have z_26 := Z_26.out; have y_26 := Y_26.out; have x_26 := Xh3_26.out; have z_267 := Z_267.out; have y_267 := Y_267.out; have x_267 := Xh4_267.out; have z_2675 := Z_2675.out; omega
                have hs1 : wr.heap.size ≤ h3 := by have z0 := Z_.out; have z_2 := Z_2.out; have z_26 := Z_26.out; have y_26 := Y_26.out; have x_26 := Xh3_26.out; have z_267 := Z_267.out; have y_267 := Y_267.out; have x_267 := Xh4_267.out; have z_2675 := Z_2675.out; omega
                have hs2 : wr.heap.size ≤ h4 := by have z0 := Z_.out; have z_2 := Z_2.out; have z_26 := Z_26.out; have y_26 := Y_26.out; have x_26 := Xh3_26.out; have z_267 := Z_267.out; have y_267 := Y_267.out; have x_267 := Xh4_267.out; have z_2675 := Z_2675.out; omega
                have nph3 : ¬ Fp wr.heap.size V0.heap.size w_2.heap.size h3 := by have z0 := Z_.out; have z_2 := Z_2.out; have z_26 := Z_26.out; have y_26 := Y_26.out; have x_26 := Xh3_26.out; have z_267 := Z_267.out; have y_267 := Y_267.out; have x_267 := Xh4_267.out; have z_2675 := Z_2675.out; unfold Fp; omega
                have nph4 : ¬ Fp wr.heap.size V0.heap.size w_2.heap.size h4 := by have z0 := Z_.out; have z_2 := Z_2.out; have z_26 := Z_26.out; have y_26 := Y_26.out; have x_26 := Xh3_26.out; have z_267 := Z_267.out; have y_267 := Y_267.out; have x_267 := Xh4_267.out; have z_2675 := Z_2675.out; unfold Fp; omega
                have nqh3 : ¬ Fp wr.heap.size w_267.heap.size w_2675.heap.size h3 := by have z0 := Z_.out; have z_2 := Z_2.out; have z_26 := Z_26.out; have y_26 := Y_26.out; have x_26 := Xh3_26.out; have z_267 := Z_267.out; have y_267 := Y_267.out; have x_267 := Xh4_267.out; have z_2675 := Z_2675.out; unfold Fp; omega
                have nqh4 : ¬ Fp wr.heap.size w_267.heap.size w_2675.heap.size h4 := by have z0 := Z_.out; have z_2 := Z_2.out; have z_26 := Z_26.out; have y_26 := Y_26.out; have x_26 := Xh3_26.out; have z_267 := Z_267.out; have y_267 := Y_267.out; have x_267 := Xh4_267.out; have z_2675 := Z_2675.out; unfold Fp; omega
                have HP := Lib.hid (show P9 c d wr h3 h4 y b y' b' (doL L (o1 o)) _ from ⟨_, _, _, _, p3_of Bh3_2675.out Bh4_2675.out hne hs1 hs2 HV_2675.out y b n' p' y' b' m' q', (mapv4_far (mapv4_far MP_2675.out nph3 _ _ _ _) nph4 _ _ _ _).mono fun _ _ => trivial, (mapv4_far (mapv4_far MQ_2675.out nqh3 _ _ _ _) nqh4 _ _ _ _).mono fun _ _ => trivial⟩)
                clear nph3 nph4 nqh3 nqh4
                have hne2 : h4 ≠ h3 := fun h => hne h.symm
                obtain ⟨⟨e0, e1, e2, e3⟩, f0, f1, f2, f3⟩ := box4 Bh3_2675.out
                obtain ⟨⟨r0, r1, r2, r3⟩, s0, s1, s2, s3⟩ := box4 (put4_far Bh4_2675.out hne2 (.int .u64 y) (.int .i64 b) (.int .i64 n') (.pointer p'))
                go_simp
                refine hK.out _ _ ?_
                clear hK K
                try simp only [Act.put, List.setIfInBounds_toArray, List.set_cons_zero, List.set_cons_succ]
                refine RegL.wpAnyL_ready (rs := [9]) (by kernel_rfl) (by simp) ?_
                refine RegL.AllReadyL.late (o := ⟨none, Op.store 30 (Operand.tmp 16) (Operand.tmp 66), _, _, _, _⟩) rfl (by kernel_rfl) (fun K hK => ?_) RegL.AllReadyL.nil
                go_simp
                refine hK.out _ _ ?_
                clear hK K
                try simp only [Act.put, List.setIfInBounds_toArray, List.set_cons_zero, List.set_cons_succ]
                refine RegL.wpAnyL_done (by kernel_rfl) ?_ _
                refine NoPanic.normal ?_
                (go_wp2_with fail)
                go_meet
                exact ⟨_, _, rfl, rfl, HP⟩
              refine RegL.AllReadyL.calm (o := ⟨some 16, Op.alloc 30, _, _, _, _⟩) rfl (fun K hK => ?_) RegL.AllReadyL.nil
              go_simp
              have hb := (Below.refl w_2.heap.size w_2).alloc (Nat.le_refl _) (.cells #[.int .u64 0, .int .i64 0, .int .i64 0, .pointer none] MT)
              have hB := blk_new w_2 (.cells #[.int .u64 0, .int .i64 0, .int .i64 0, .pointer none] MT)
              have hz : (w_2.alloc (.cells #[.int .u64 0, .int .i64 0, .int .i64 0, .pointer none] MT)).heap.size = w_2.heap.size + 1 := by simp
              obtain ⟨h4, hh⟩ : ∃ h, h = w_2.heap.size := ⟨_, rfl⟩
              have Xh4_27 := Lib.hid hh
              rw [← hh] at hB ⊢
              clear hh
              generalize w_2.alloc (.cells #[.int .u64 0, .int .i64 0, .int .i64 0, .pointer none] MT) = w_27 at hb hB hz ⊢
              have HE_27 := Lib.hid hb; have Bh4_27 := Lib.hid hB; have Y_27 := Lib.hid hz
              clear hb hB hz
              have Z_27 := Lib.hid HE_27.out.size
              have HV_27 := Lib.hid (below_trans HV_2.out HE_27.out)
              have MP_27 := Lib.hid (MP_2.out.below HE_27.out)
              (try dsimp only)
              refine hK.out _ _ (⟨⟨cell_below hS0x.1.1 HE_27.out, cell_below hS0x.1.2.1 HE_27.out, cell_below hS0x.1.2.2.1 HE_27.out, cell_below hS0x.1.2.2.2 HE_27.out⟩, ⟨cell_below hS0x.2.1.1 HE_27.out, cell_below hS0x.2.1.2.1 HE_27.out, cell_below hS0x.2.1.2.2.1 HE_27.out, cell_below hS0x.2.1.2.2.2 HE_27.out⟩, ⟨cell_below hS0x.2.2.1 HE_27.out, cell_below hS0x.2.2.2.1 HE_27.out, cell_below hS0x.2.2.2.2 HE_27.out⟩⟩) (fun hS0xx => ?_)
              clear hK K
              try simp only [Act.put, List.setIfInBounds_toArray, List.set_cons_zero, List.set_cons_succ]
              refine RegL.wpAnyL_ready (rs := [5, 6]) (by kernel_rfl) (by simp) ?_
              refine RegL.AllReadyL.calm (o := ⟨some 66, Op.call { callee := Callee.value (Operand.func 20), args := #[Operand.tmp 64, Operand.tmp 65], argTypes := #[30, 37] }, _, _, _, _⟩) rfl (fun K hK => ?_) ?_
              · go_simp
                refine (HDN.out _ HV_27.out).mono ?_
                rintro e w_275 ⟨v, rfl, ⟨m', q', rfl, hm⟩, hb⟩
                have HE_275 := Lib.hid hb
                clear hb
                have MQ_275 := Lib.hid (fp_of (fun x hx => hx.2) hm)
                clear hm
                have Z_275 := Lib.hid HE_275.out.size
                have HV_275 := Lib.hid (below_trans HV_27.out HE_275.out)
                have MP_275 := Lib.hid (MP_27.out.below HE_275.out)
                have Bh4_275 := Lib.hid (blk_below Bh4_27.out HE_275.out)
                (try dsimp only)
                refine hK.out _ _ (⟨⟨cell_below hS0xx.1.1 HE_275.out, cell_below hS0xx.1.2.1 HE_275.out, cell_below hS0xx.1.2.2.1 HE_275.out, cell_below hS0xx.1.2.2.2 HE_275.out⟩, ⟨cell_below hS0xx.2.1.1 HE_275.out, cell_below hS0xx.2.1.2.1 HE_275.out, cell_below hS0xx.2.1.2.2.1 HE_275.out, cell_below hS0xx.2.1.2.2.2 HE_275.out⟩, ⟨cell_below hS0xx.2.2.1 HE_275.out, cell_below hS0xx.2.2.2.1 HE_275.out, cell_below hS0xx.2.2.2.2 HE_275.out⟩⟩) (fun hS0xxx => ?_)
                clear hK K
                try simp only [Act.put, List.setIfInBounds_toArray, List.set_cons_zero, List.set_cons_succ]
                refine RegL.wpAnyL_ready (rs := [6]) (by kernel_rfl) (by simp) ?_
                refine RegL.AllReadyL.calm (o := ⟨some 15, Op.alloc 30, _, _, _, _⟩) rfl (fun K hK => ?_) RegL.AllReadyL.nil
                go_simp
                have hb := (Below.refl w_275.heap.size w_275).alloc (Nat.le_refl _) (.cells #[.int .u64 0, .int .i64 0, .int .i64 0, .pointer none] MT)
                have hB := blk_new w_275 (.cells #[.int .u64 0, .int .i64 0, .int .i64 0, .pointer none] MT)
                have hz : (w_275.alloc (.cells #[.int .u64 0, .int .i64 0, .int .i64 0, .pointer none] MT)).heap.size = w_275.heap.size + 1 := by simp
                obtain ⟨h3, hh⟩ : ∃ h, h = w_275.heap.size := ⟨_, rfl⟩
                have Xh3_2756 := Lib.hid hh
                rw [← hh] at hB ⊢
                clear hh
                generalize w_275.alloc (.cells #[.int .u64 0, .int .i64 0, .int .i64 0, .pointer none] MT) = w_2756 at hb hB hz ⊢
                have HE_2756 := Lib.hid hb; have Bh3_2756 := Lib.hid hB; have Y_2756 := Lib.hid hz
                clear hb hB hz
                have Z_2756 := Lib.hid HE_2756.out.size
                have HV_2756 := Lib.hid (below_trans HV_275.out HE_2756.out)
                have MP_2756 := Lib.hid (MP_275.out.below HE_2756.out)
                have Bh4_2756 := Lib.hid (blk_below Bh4_275.out HE_2756.out)
                have MQ_2756 := Lib.hid (MQ_275.out.below HE_2756.out)
                (try dsimp only)
                refine hK.out _ _ (⟨⟨cell_below hS0xxx.1.1 HE_2756.out, cell_below hS0xxx.1.2.1 HE_2756.out, cell_below hS0xxx.1.2.2.1 HE_2756.out, cell_below hS0xxx.1.2.2.2 HE_2756.out⟩, ⟨cell_below hS0xxx.2.1.1 HE_2756.out, cell_below hS0xxx.2.1.2.1 HE_2756.out, cell_below hS0xxx.2.1.2.2.1 HE_2756.out, cell_below hS0xxx.2.1.2.2.2 HE_2756.out⟩, ⟨cell_below hS0xxx.2.2.1 HE_2756.out, cell_below hS0xxx.2.2.2.1 HE_2756.out, cell_below hS0xxx.2.2.2.2 HE_2756.out⟩⟩) (fun hS0xxxx => ?_)
                clear hK K
                try simp only [Act.put, List.setIfInBounds_toArray, List.set_cons_zero, List.set_cons_succ]
                refine RegL.wpAnyL_ready (rs := [8]) (by kernel_rfl) (by simp) ?_
                refine RegL.AllReadyL.late (o := ⟨none, Op.store 30 (Operand.tmp 15) (Operand.tmp 63), _, _, _, _⟩) rfl (by kernel_rfl) (fun K hK => ?_) RegL.AllReadyL.nil
                have hne : h3 ≠ h4 := by have z0 := Z_.out; have z_2 := Z_2.out; have z_27 := Z_27.out; have y_27 := Y_27.out; have x_27 := Xh4_27.out; have z_275 := Z_275.out; have z_2756 := Z_2756.out; have y_2756 := Y_2756.out; have x_2756 := Xh3_2756.out; omega
                have hs1 : wr.heap.size ≤ h3 := by have z0 := Z_.out; have z_2 := Z_2.out; have z_27 := Z_27.out; have y_27 := Y_27.out; have x_27 := Xh4_27.out; have z_275 := Z_275.out; have z_2756 := Z_2756.out; have y_2756 := Y_2756.out; have x_2756 := Xh3_2756.out; omega
                have hs2 : wr.heap.size ≤ h4 := by have z0 := Z_.out; have z_2 := Z_2.out; have z_27 := Z_27.out; have y_27 := Y_27.out; have x_27 := Xh4_27.out; have z_275 := Z_275.out; have z_2756 := Z_2756.out; have y_2756 := Y_2756.out; have x_2756 := Xh3_2756.out; omega
                have nph3 : ¬ Fp wr.heap.size V0.heap.size w_2.heap.size h3 := by have z0 := Z_.out; have z_2 := Z_2.out; have z_27 := Z_27.out; have y_27 := Y_27.out; have x_27 := Xh4_27.out; have z_275 := Z_275.out; have z_2756 := Z_2756.out; have y_2756 := Y_2756.out; have x_2756 := Xh3_2756.out; unfold Fp; omega
                have nph4 : ¬ Fp wr.heap.size V0.heap.size w_2.heap.size h4 := by have z0 := Z_.out; have z_2 := Z_2.out; have z_27 := Z_27.out; have y_27 := Y_27.out; have x_27 := Xh4_27.out; have z_275 := Z_275.out; have z_2756 := Z_2756.out; have y_2756 := Y_2756.out; have x_2756 := Xh3_2756.out; unfold Fp; omega
                have nqh3 : ¬ Fp wr.heap.size w_27.heap.size w_275.heap.size h3 := by have z0 := Z_.out; have z_2 := Z_2.out; have z_27 := Z_27.out; have y_27 := Y_27.out; have x_27 := Xh4_27.out; have z_275 := Z_275.out; have z_2756 := Z_2756.out; have y_2756 := Y_2756.out; have x_2756 := Xh3_2756.out; unfold Fp; omega
                have nqh4 : ¬ Fp wr.heap.size w_27.heap.size w_275.heap.size h4 := by have z0 := Z_.out; have z_2 := Z_2.out; have z_27 := Z_27.out; have y_27 := Y_27.out; have x_27 := Xh4_27.out; have z_275 := Z_275.out; have z_2756 := Z_2756.out; have y_2756 := Y_2756.out; have x_2756 := Xh3_2756.out; unfold Fp; omega
                have HP := Lib.hid (show P9 c d wr h3 h4 y b y' b' (doL L (o1 o)) _ from ⟨_, _, _, _, p3_of Bh3_2756.out Bh4_2756.out hne hs1 hs2 HV_2756.out y b n' p' y' b' m' q', (mapv4_far (mapv4_far MP_2756.out nph3 _ _ _ _) nph4 _ _ _ _).mono fun _ _ => trivial, (mapv4_far (mapv4_far MQ_2756.out nqh3 _ _ _ _) nqh4 _ _ _ _).mono fun _ _ => trivial⟩)
                clear nph3 nph4 nqh3 nqh4
                have hne2 : h4 ≠ h3 := fun h => hne h.symm
                obtain ⟨⟨e0, e1, e2, e3⟩, f0, f1, f2, f3⟩ := box4 Bh3_2756.out
                obtain ⟨⟨r0, r1, r2, r3⟩, s0, s1, s2, s3⟩ := box4 (put4_far Bh4_2756.out hne2 (.int .u64 y) (.int .i64 b) (.int .i64 n') (.pointer p'))
                go_simp
                refine hK.out _ _ ?_
                clear hK K
                try simp only [Act.put, List.setIfInBounds_toArray, List.set_cons_zero, List.set_cons_succ]
                refine RegL.wpAnyL_ready (rs := [9]) (by kernel_rfl) (by simp) ?_
                refine RegL.AllReadyL.late (o := ⟨none, Op.store 30 (Operand.tmp 16) (Operand.tmp 66), _, _, _, _⟩) rfl (by kernel_rfl) (fun K hK => ?_) RegL.AllReadyL.nil
                go_simp
                refine hK.out _ _ ?_
                clear hK K
                try simp only [Act.put, List.setIfInBounds_toArray, List.set_cons_zero, List.set_cons_succ]
                refine RegL.wpAnyL_done (by kernel_rfl) ?_ _
                refine NoPanic.normal ?_
                (go_wp2_with fail)
                go_meet
                exact ⟨_, _, rfl, rfl, HP⟩
              refine RegL.AllReadyL.calm (o := ⟨some 15, Op.alloc 30, _, _, _, _⟩) rfl (fun K hK => ?_) RegL.AllReadyL.nil
              go_simp
              have hb := (Below.refl w_27.heap.size w_27).alloc (Nat.le_refl _) (.cells #[.int .u64 0, .int .i64 0, .int .i64 0, .pointer none] MT)
              have hB := blk_new w_27 (.cells #[.int .u64 0, .int .i64 0, .int .i64 0, .pointer none] MT)
              have hz : (w_27.alloc (.cells #[.int .u64 0, .int .i64 0, .int .i64 0, .pointer none] MT)).heap.size = w_27.heap.size + 1 := by simp
              obtain ⟨h3, hh⟩ : ∃ h, h = w_27.heap.size := ⟨_, rfl⟩
              have Xh3_276 := Lib.hid hh
              rw [← hh] at hB ⊢
              clear hh
              generalize w_27.alloc (.cells #[.int .u64 0, .int .i64 0, .int .i64 0, .pointer none] MT) = w_276 at hb hB hz ⊢
              have HE_276 := Lib.hid hb; have Bh3_276 := Lib.hid hB; have Y_276 := Lib.hid hz
              clear hb hB hz
              have Z_276 := Lib.hid HE_276.out.size
              have HV_276 := Lib.hid (below_trans HV_27.out HE_276.out)
              have MP_276 := Lib.hid (MP_27.out.below HE_276.out)
              have Bh4_276 := Lib.hid (blk_below Bh4_27.out HE_276.out)
              (try dsimp only)
              refine hK.out _ _ (⟨⟨cell_below hS0xx.1.1 HE_276.out, cell_below hS0xx.1.2.1 HE_276.out, cell_below hS0xx.1.2.2.1 HE_276.out, cell_below hS0xx.1.2.2.2 HE_276.out⟩, ⟨cell_below hS0xx.2.1.1 HE_276.out, cell_below hS0xx.2.1.2.1 HE_276.out, cell_below hS0xx.2.1.2.2.1 HE_276.out, cell_below hS0xx.2.1.2.2.2 HE_276.out⟩, ⟨cell_below hS0xx.2.2.1 HE_276.out, cell_below hS0xx.2.2.2.1 HE_276.out, cell_below hS0xx.2.2.2.2 HE_276.out⟩⟩) (fun hS0xxx => ?_)
              clear hK K
              try simp only [Act.put, List.setIfInBounds_toArray, List.set_cons_zero, List.set_cons_succ]
              refine RegL.wpAnyL_ready (rs := [5]) (by kernel_rfl) (by simp) ?_
              refine RegL.AllReadyL.calm (o := ⟨some 66, Op.call { callee := Callee.value (Operand.func 20), args := #[Operand.tmp 64, Operand.tmp 65], argTypes := #[30, 37] }, _, _, _, _⟩) rfl (fun K hK => ?_) RegL.AllReadyL.nil
              go_simp
              refine (HDN.out _ HV_276.out).mono ?_
              rintro e w_2765 ⟨v, rfl, ⟨m', q', rfl, hm⟩, hb⟩
              have HE_2765 := Lib.hid hb
              clear hb
              have MQ_2765 := Lib.hid (fp_of (fun x hx => hx.2) hm)
              clear hm
              have Z_2765 := Lib.hid HE_2765.out.size
              have HV_2765 := Lib.hid (below_trans HV_276.out HE_2765.out)
              have MP_2765 := Lib.hid (MP_276.out.below HE_2765.out)
              have Bh4_2765 := Lib.hid (blk_below Bh4_276.out HE_2765.out)
              have Bh3_2765 := Lib.hid (blk_below Bh3_276.out HE_2765.out)
              (try dsimp only)
              refine hK.out _ _ (⟨⟨cell_below hS0xxx.1.1 HE_2765.out, cell_below hS0xxx.1.2.1 HE_2765.out, cell_below hS0xxx.1.2.2.1 HE_2765.out, cell_below hS0xxx.1.2.2.2 HE_2765.out⟩, ⟨cell_below hS0xxx.2.1.1 HE_2765.out, cell_below hS0xxx.2.1.2.1 HE_2765.out, cell_below hS0xxx.2.1.2.2.1 HE_2765.out, cell_below hS0xxx.2.1.2.2.2 HE_2765.out⟩, ⟨cell_below hS0xxx.2.2.1 HE_2765.out, cell_below hS0xxx.2.2.2.1 HE_2765.out, cell_below hS0xxx.2.2.2.2 HE_2765.out⟩⟩) (fun hS0xxxx => ?_)
              clear hK K
              try simp only [Act.put, List.setIfInBounds_toArray, List.set_cons_zero, List.set_cons_succ]
              refine RegL.wpAnyL_ready (rs := [8]) (by kernel_rfl) (by simp) ?_
              refine RegL.AllReadyL.late (o := ⟨none, Op.store 30 (Operand.tmp 15) (Operand.tmp 63), _, _, _, _⟩) rfl (by kernel_rfl) (fun K hK => ?_) RegL.AllReadyL.nil
              have hne : h3 ≠ h4 := by have z0 := Z_.out; have z_2 := Z_2.out; have z_27 := Z_27.out; have y_27 := Y_27.out; have x_27 := Xh4_27.out; have z_276 := Z_276.out; have y_276 := Y_276.out; have x_276 := Xh3_276.out; have z_2765 := Z_2765.out; omega
              have hs1 : wr.heap.size ≤ h3 := by have z0 := Z_.out; have z_2 := Z_2.out; have z_27 := Z_27.out; have y_27 := Y_27.out; have x_27 := Xh4_27.out; have z_276 := Z_276.out; have y_276 := Y_276.out; have x_276 := Xh3_276.out; have z_2765 := Z_2765.out; omega
              have hs2 : wr.heap.size ≤ h4 := by have z0 := Z_.out; have z_2 := Z_2.out; have z_27 := Z_27.out; have y_27 := Y_27.out; have x_27 := Xh4_27.out; have z_276 := Z_276.out; have y_276 := Y_276.out; have x_276 := Xh3_276.out; have z_2765 := Z_2765.out; omega
              have nph3 : ¬ Fp wr.heap.size V0.heap.size w_2.heap.size h3 := by have z0 := Z_.out; have z_2 := Z_2.out; have z_27 := Z_27.out; have y_27 := Y_27.out; have x_27 := Xh4_27.out; have z_276 := Z_276.out; have y_276 := Y_276.out; have x_276 := Xh3_276.out; have z_2765 := Z_2765.out; unfold Fp; omega
              have nph4 : ¬ Fp wr.heap.size V0.heap.size w_2.heap.size h4 := by have z0 := Z_.out; have z_2 := Z_2.out; have z_27 := Z_27.out; have y_27 := Y_27.out; have x_27 := Xh4_27.out; have z_276 := Z_276.out; have y_276 := Y_276.out; have x_276 := Xh3_276.out; have z_2765 := Z_2765.out; unfold Fp; omega
              have nqh3 : ¬ Fp wr.heap.size w_276.heap.size w_2765.heap.size h3 := by have z0 := Z_.out; have z_2 := Z_2.out; have z_27 := Z_27.out; have y_27 := Y_27.out; have x_27 := Xh4_27.out; have z_276 := Z_276.out; have y_276 := Y_276.out; have x_276 := Xh3_276.out; have z_2765 := Z_2765.out; unfold Fp; omega
              have nqh4 : ¬ Fp wr.heap.size w_276.heap.size w_2765.heap.size h4 := by have z0 := Z_.out; have z_2 := Z_2.out; have z_27 := Z_27.out; have y_27 := Y_27.out; have x_27 := Xh4_27.out; have z_276 := Z_276.out; have y_276 := Y_276.out; have x_276 := Xh3_276.out; have z_2765 := Z_2765.out; unfold Fp; omega
              have HP := Lib.hid (show P9 c d wr h3 h4 y b y' b' (doL L (o1 o)) _ from ⟨_, _, _, _, p3_of Bh3_2765.out Bh4_2765.out hne hs1 hs2 HV_2765.out y b n' p' y' b' m' q', (mapv4_far (mapv4_far MP_2765.out nph3 _ _ _ _) nph4 _ _ _ _).mono fun _ _ => trivial, (mapv4_far (mapv4_far MQ_2765.out nqh3 _ _ _ _) nqh4 _ _ _ _).mono fun _ _ => trivial⟩)
              clear nph3 nph4 nqh3 nqh4
              have hne2 : h4 ≠ h3 := fun h => hne h.symm
              obtain ⟨⟨e0, e1, e2, e3⟩, f0, f1, f2, f3⟩ := box4 Bh3_2765.out
              obtain ⟨⟨r0, r1, r2, r3⟩, s0, s1, s2, s3⟩ := box4 (put4_far Bh4_2765.out hne2 (.int .u64 y) (.int .i64 b) (.int .i64 n') (.pointer p'))
              go_simp
              refine hK.out _ _ ?_
              clear hK K
              try simp only [Act.put, List.setIfInBounds_toArray, List.set_cons_zero, List.set_cons_succ]
              refine RegL.wpAnyL_ready (rs := [9]) (by kernel_rfl) (by simp) ?_
              refine RegL.AllReadyL.late (o := ⟨none, Op.store 30 (Operand.tmp 16) (Operand.tmp 66), _, _, _, _⟩) rfl (by kernel_rfl) (fun K hK => ?_) RegL.AllReadyL.nil
              go_simp
              refine hK.out _ _ ?_
              clear hK K
              try simp only [Act.put, List.setIfInBounds_toArray, List.set_cons_zero, List.set_cons_succ]
              refine RegL.wpAnyL_done (by kernel_rfl) ?_ _
              refine NoPanic.normal ?_
              (go_wp2_with fail)
              go_meet
              exact ⟨_, _, rfl, rfl, HP⟩
            refine RegL.AllReadyL.calm (o := ⟨some 15, Op.alloc 30, _, _, _, _⟩) rfl (fun K hK => ?_) ?_
            · go_simp
              have hb := (Below.refl V0.heap.size V0).alloc (Nat.le_refl _) (.cells #[.int .u64 0, .int .i64 0, .int .i64 0, .pointer none] MT)
              have hB := blk_new V0 (.cells #[.int .u64 0, .int .i64 0, .int .i64 0, .pointer none] MT)
              have hz : (V0.alloc (.cells #[.int .u64 0, .int .i64 0, .int .i64 0, .pointer none] MT)).heap.size = V0.heap.size + 1 := by simp
              obtain ⟨h3, hh⟩ : ∃ h, h = V0.heap.size := ⟨_, rfl⟩
              have Xh3_6 := Lib.hid hh
              rw [← hh] at hB ⊢
              clear hh
              generalize V0.alloc (.cells #[.int .u64 0, .int .i64 0, .int .i64 0, .pointer none] MT) = w_6 at hb hB hz ⊢
              have HE_6 := Lib.hid hb; have Bh3_6 := Lib.hid hB; have Y_6 := Lib.hid hz
              clear hb hB hz
              have Z_6 := Lib.hid HE_6.out.size
              have HV_6 := Lib.hid (below_trans HV_.out HE_6.out)
              (try dsimp only)
              refine hK.out _ _ (⟨⟨cell_below hS0.1.1 HE_6.out, cell_below hS0.1.2.1 HE_6.out, cell_below hS0.1.2.2.1 HE_6.out, cell_below hS0.1.2.2.2 HE_6.out⟩, ⟨cell_below hS0.2.1.1 HE_6.out, cell_below hS0.2.1.2.1 HE_6.out, cell_below hS0.2.1.2.2.1 HE_6.out, cell_below hS0.2.1.2.2.2 HE_6.out⟩, ⟨cell_below hS0.2.2.1 HE_6.out, cell_below hS0.2.2.2.1 HE_6.out, cell_below hS0.2.2.2.2 HE_6.out⟩⟩) (fun hS0x => ?_)
              clear hK K
              try simp only [Act.put, List.setIfInBounds_toArray, List.set_cons_zero, List.set_cons_succ]
              refine RegL.wpAnyL_ready (rs := [2, 7]) (by kernel_rfl) (by simp) ?_
              refine RegL.AllReadyL.calm (o := ⟨some 63, Op.call { callee := Callee.value (Operand.func 20), args := #[Operand.tmp 61, Operand.tmp 62], argTypes := #[30, 37] }, _, _, _, _⟩) rfl (fun K hK => ?_) ?_
              · go_simp
                refine (HDO.out _ HV_6.out).mono ?_
                rintro e w_62 ⟨v, rfl, ⟨n', p', rfl, hm⟩, hb⟩
                have HE_62 := Lib.hid hb
                clear hb
                have MP_62 := Lib.hid (fp_of (fun x hx => hx.2) hm)
                clear hm
                have Z_62 := Lib.hid HE_62.out.size
                have HV_62 := Lib.hid (below_trans HV_6.out HE_62.out)
                have Bh3_62 := Lib.hid (blk_below Bh3_6.out HE_62.out)
                (try dsimp only)
                refine hK.out _ _ (⟨⟨cell_below hS0x.1.1 HE_62.out, cell_below hS0x.1.2.1 HE_62.out, cell_below hS0x.1.2.2.1 HE_62.out, cell_below hS0x.1.2.2.2 HE_62.out⟩, ⟨cell_below hS0x.2.1.1 HE_62.out, cell_below hS0x.2.1.2.1 HE_62.out, cell_below hS0x.2.1.2.2.1 HE_62.out, cell_below hS0x.2.1.2.2.2 HE_62.out⟩, ⟨cell_below hS0x.2.2.1 HE_62.out, cell_below hS0x.2.2.2.1 HE_62.out, cell_below hS0x.2.2.2.2 HE_62.out⟩⟩) (fun hS0xx => ?_)
                clear hK K
                try simp only [Act.put, List.setIfInBounds_toArray, List.set_cons_zero, List.set_cons_succ]
                refine RegL.wpAnyL_ready (rs := [5, 7]) (by kernel_rfl) (by simp) ?_
                refine RegL.AllReadyL.calm (o := ⟨some 66, Op.call { callee := Callee.value (Operand.func 20), args := #[Operand.tmp 64, Operand.tmp 65], argTypes := #[30, 37] }, _, _, _, _⟩) rfl (fun K hK => ?_) ?_
                · go_simp
                  refine (HDN.out _ HV_62.out).mono ?_
                  rintro e w_625 ⟨v, rfl, ⟨m', q', rfl, hm⟩, hb⟩
                  have HE_625 := Lib.hid hb
                  clear hb
                  have MQ_625 := Lib.hid (fp_of (fun x hx => hx.2) hm)
                  clear hm
                  have Z_625 := Lib.hid HE_625.out.size
                  have HV_625 := Lib.hid (below_trans HV_62.out HE_625.out)
                  have Bh3_625 := Lib.hid (blk_below Bh3_62.out HE_625.out)
                  have MP_625 := Lib.hid (MP_62.out.below HE_625.out)
                  (try dsimp only)
                  refine hK.out _ _ (⟨⟨cell_below hS0xx.1.1 HE_625.out, cell_below hS0xx.1.2.1 HE_625.out, cell_below hS0xx.1.2.2.1 HE_625.out, cell_below hS0xx.1.2.2.2 HE_625.out⟩, ⟨cell_below hS0xx.2.1.1 HE_625.out, cell_below hS0xx.2.1.2.1 HE_625.out, cell_below hS0xx.2.1.2.2.1 HE_625.out, cell_below hS0xx.2.1.2.2.2 HE_625.out⟩, ⟨cell_below hS0xx.2.2.1 HE_625.out, cell_below hS0xx.2.2.2.1 HE_625.out, cell_below hS0xx.2.2.2.2 HE_625.out⟩⟩) (fun hS0xxx => ?_)
                  clear hK K
                  try simp only [Act.put, List.setIfInBounds_toArray, List.set_cons_zero, List.set_cons_succ]
                  refine RegL.wpAnyL_ready (rs := [7]) (by kernel_rfl) (by simp) ?_
                  refine RegL.AllReadyL.calm (o := ⟨some 16, Op.alloc 30, _, _, _, _⟩) rfl (fun K hK => ?_) RegL.AllReadyL.nil
                  go_simp
                  have hb := (Below.refl w_625.heap.size w_625).alloc (Nat.le_refl _) (.cells #[.int .u64 0, .int .i64 0, .int .i64 0, .pointer none] MT)
                  have hB := blk_new w_625 (.cells #[.int .u64 0, .int .i64 0, .int .i64 0, .pointer none] MT)
                  have hz : (w_625.alloc (.cells #[.int .u64 0, .int .i64 0, .int .i64 0, .pointer none] MT)).heap.size = w_625.heap.size + 1 := by simp
                  obtain ⟨h4, hh⟩ : ∃ h, h = w_625.heap.size := ⟨_, rfl⟩
                  have Xh4_6257 := Lib.hid hh
                  rw [← hh] at hB ⊢
                  clear hh
                  generalize w_625.alloc (.cells #[.int .u64 0, .int .i64 0, .int .i64 0, .pointer none] MT) = w_6257 at hb hB hz ⊢
                  have HE_6257 := Lib.hid hb; have Bh4_6257 := Lib.hid hB; have Y_6257 := Lib.hid hz
                  clear hb hB hz
                  have Z_6257 := Lib.hid HE_6257.out.size
                  have HV_6257 := Lib.hid (below_trans HV_625.out HE_6257.out)
                  have Bh3_6257 := Lib.hid (blk_below Bh3_625.out HE_6257.out)
                  have MP_6257 := Lib.hid (MP_625.out.below HE_6257.out)
                  have MQ_6257 := Lib.hid (MQ_625.out.below HE_6257.out)
                  (try dsimp only)
                  refine hK.out _ _ (⟨⟨cell_below hS0xxx.1.1 HE_6257.out, cell_below hS0xxx.1.2.1 HE_6257.out, cell_below hS0xxx.1.2.2.1 HE_6257.out, cell_below hS0xxx.1.2.2.2 HE_6257.out⟩, ⟨cell_below hS0xxx.2.1.1 HE_6257.out, cell_below hS0xxx.2.1.2.1 HE_6257.out, cell_below hS0xxx.2.1.2.2.1 HE_6257.out, cell_below hS0xxx.2.1.2.2.2 HE_6257.out⟩, ⟨cell_below hS0xxx.2.2.1 HE_6257.out, cell_below hS0xxx.2.2.2.1 HE_6257.out, cell_below hS0xxx.2.2.2.2 HE_6257.out⟩⟩) (fun hS0xxxx => ?_)
                  clear hK K
                  try simp only [Act.put, List.setIfInBounds_toArray, List.set_cons_zero, List.set_cons_succ]
                  refine RegL.wpAnyL_ready (rs := [8]) (by kernel_rfl) (by simp) ?_
                  refine RegL.AllReadyL.late (o := ⟨none, Op.store 30 (Operand.tmp 15) (Operand.tmp 63), _, _, _, _⟩) rfl (by kernel_rfl) (fun K hK => ?_) RegL.AllReadyL.nil
                  have hne : h3 ≠ h4 := by have z0 := Z_.out; have z_6 := Z_6.out; have y_6 := Y_6.out; have x_6 := Xh3_6.out; have z_62 := Z_62.out; have z_625 := Z_625.out; have z_6257 := Z_6257.out; have y_6257 := Y_6257.out; have x_6257 := Xh4_6257.out; omega
                  have hs1 : wr.heap.size ≤ h3 := by have z0 := Z_.out; have z_6 := Z_6.out; have y_6 := Y_6.out; have x_6 := Xh3_6.out; have z_62 := Z_62.out; have z_625 := Z_625.out; have z_6257 := Z_6257.out; have y_6257 := Y_6257.out; have x_6257 := Xh4_6257.out; omega
                  have hs2 : wr.heap.size ≤ h4 := by have z0 := Z_.out; have z_6 := Z_6.out; have y_6 := Y_6.out; have x_6 := Xh3_6.out; have z_62 := Z_62.out; have z_625 := Z_625.out; have z_6257 := Z_6257.out; have y_6257 := Y_6257.out; have x_6257 := Xh4_6257.out; omega
                  have nph3 : ¬ Fp wr.heap.size w_6.heap.size w_62.heap.size h3 := by have z0 := Z_.out; have z_6 := Z_6.out; have y_6 := Y_6.out; have x_6 := Xh3_6.out; have z_62 := Z_62.out; have z_625 := Z_625.out; have z_6257 := Z_6257.out; have y_6257 := Y_6257.out; have x_6257 := Xh4_6257.out; unfold Fp; omega
                  have nph4 : ¬ Fp wr.heap.size w_6.heap.size w_62.heap.size h4 := by have z0 := Z_.out; have z_6 := Z_6.out; have y_6 := Y_6.out; have x_6 := Xh3_6.out; have z_62 := Z_62.out; have z_625 := Z_625.out; have z_6257 := Z_6257.out; have y_6257 := Y_6257.out; have x_6257 := Xh4_6257.out; unfold Fp; omega
                  have nqh3 : ¬ Fp wr.heap.size w_62.heap.size w_625.heap.size h3 := by have z0 := Z_.out; have z_6 := Z_6.out; have y_6 := Y_6.out; have x_6 := Xh3_6.out; have z_62 := Z_62.out; have z_625 := Z_625.out; have z_6257 := Z_6257.out; have y_6257 := Y_6257.out; have x_6257 := Xh4_6257.out; unfold Fp; omega
                  have nqh4 : ¬ Fp wr.heap.size w_62.heap.size w_625.heap.size h4 := by have z0 := Z_.out; have z_6 := Z_6.out; have y_6 := Y_6.out; have x_6 := Xh3_6.out; have z_62 := Z_62.out; have z_625 := Z_625.out; have z_6257 := Z_6257.out; have y_6257 := Y_6257.out; have x_6257 := Xh4_6257.out; unfold Fp; omega
                  have HP := Lib.hid (show P9 c d wr h3 h4 y b y' b' (doL L (o1 o)) _ from ⟨_, _, _, _, p3_of Bh3_6257.out Bh4_6257.out hne hs1 hs2 HV_6257.out y b n' p' y' b' m' q', (mapv4_far (mapv4_far MP_6257.out nph3 _ _ _ _) nph4 _ _ _ _).mono fun _ _ => trivial, (mapv4_far (mapv4_far MQ_6257.out nqh3 _ _ _ _) nqh4 _ _ _ _).mono fun _ _ => trivial⟩)
                  clear nph3 nph4 nqh3 nqh4
                  have hne2 : h4 ≠ h3 := fun h => hne h.symm
                  obtain ⟨⟨e0, e1, e2, e3⟩, f0, f1, f2, f3⟩ := box4 Bh3_6257.out
                  obtain ⟨⟨r0, r1, r2, r3⟩, s0, s1, s2, s3⟩ := box4 (put4_far Bh4_6257.out hne2 (.int .u64 y) (.int .i64 b) (.int .i64 n') (.pointer p'))
                  go_simp
                  refine hK.out _ _ ?_
                  clear hK K
                  try simp only [Act.put, List.setIfInBounds_toArray, List.set_cons_zero, List.set_cons_succ]
                  refine RegL.wpAnyL_ready (rs := [9]) (by kernel_rfl) (by simp) ?_
                  refine RegL.AllReadyL.late (o := ⟨none, Op.store 30 (Operand.tmp 16) (Operand.tmp 66), _, _, _, _⟩) rfl (by kernel_rfl) (fun K hK => ?_) RegL.AllReadyL.nil
                  go_simp
                  refine hK.out _ _ ?_
                  clear hK K
                  try simp only [Act.put, List.setIfInBounds_toArray, List.set_cons_zero, List.set_cons_succ]
                  refine RegL.wpAnyL_done (by kernel_rfl) ?_ _
                  refine NoPanic.normal ?_
                  (go_wp2_with fail)
                  go_meet
                  exact ⟨_, _, rfl, rfl, HP⟩
                refine RegL.AllReadyL.calm (o := ⟨some 16, Op.alloc 30, _, _, _, _⟩) rfl (fun K hK => ?_) RegL.AllReadyL.nil
                go_simp
                have hb := (Below.refl w_62.heap.size w_62).alloc (Nat.le_refl _) (.cells #[.int .u64 0, .int .i64 0, .int .i64 0, .pointer none] MT)
                have hB := blk_new w_62 (.cells #[.int .u64 0, .int .i64 0, .int .i64 0, .pointer none] MT)
                have hz : (w_62.alloc (.cells #[.int .u64 0, .int .i64 0, .int .i64 0, .pointer none] MT)).heap.size = w_62.heap.size + 1 := by simp
                obtain ⟨h4, hh⟩ : ∃ h, h = w_62.heap.size := ⟨_, rfl⟩
                have Xh4_627 := Lib.hid hh
                rw [← hh] at hB ⊢
                clear hh
                generalize w_62.alloc (.cells #[.int .u64 0, .int .i64 0, .int .i64 0, .pointer none] MT) = w_627 at hb hB hz ⊢
                have HE_627 := Lib.hid hb; have Bh4_627 := Lib.hid hB; have Y_627 := Lib.hid hz
                clear hb hB hz
                have Z_627 := Lib.hid HE_627.out.size
                have HV_627 := Lib.hid (below_trans HV_62.out HE_627.out)
                have Bh3_627 := Lib.hid (blk_below Bh3_62.out HE_627.out)
                have MP_627 := Lib.hid (MP_62.out.below HE_627.out)
                (try dsimp only)
                refine hK.out _ _ (⟨⟨cell_below hS0xx.1.1 HE_627.out, cell_below hS0xx.1.2.1 HE_627.out, cell_below hS0xx.1.2.2.1 HE_627.out, cell_below hS0xx.1.2.2.2 HE_627.out⟩, ⟨cell_below hS0xx.2.1.1 HE_627.out, cell_below hS0xx.2.1.2.1 HE_627.out, cell_below hS0xx.2.1.2.2.1 HE_627.out, cell_below hS0xx.2.1.2.2.2 HE_627.out⟩, ⟨cell_below hS0xx.2.2.1 HE_627.out, cell_below hS0xx.2.2.2.1 HE_627.out, cell_below hS0xx.2.2.2.2 HE_627.out⟩⟩) (fun hS0xxx => ?_)
                clear hK K
                try simp only [Act.put, List.setIfInBounds_toArray, List.set_cons_zero, List.set_cons_succ]
                refine RegL.wpAnyL_ready (rs := [5]) (by kernel_rfl) (by simp) ?_
                refine RegL.AllReadyL.calm (o := ⟨some 66, Op.call { callee := Callee.value (Operand.func 20), args := #[Operand.tmp 64, Operand.tmp 65], argTypes := #[30, 37] }, _, _, _, _⟩) rfl (fun K hK => ?_) RegL.AllReadyL.nil
                go_simp
                refine (HDN.out _ HV_627.out).mono ?_
                rintro e w_6275 ⟨v, rfl, ⟨m', q', rfl, hm⟩, hb⟩
                have HE_6275 := Lib.hid hb
                clear hb
                have MQ_6275 := Lib.hid (fp_of (fun x hx => hx.2) hm)
                clear hm
                have Z_6275 := Lib.hid HE_6275.out.size
                have HV_6275 := Lib.hid (below_trans HV_627.out HE_6275.out)
                have Bh3_6275 := Lib.hid (blk_below Bh3_627.out HE_6275.out)
                have MP_6275 := Lib.hid (MP_627.out.below HE_6275.out)
                have Bh4_6275 := Lib.hid (blk_below Bh4_627.out HE_6275.out)
                (try dsimp only)
                refine hK.out _ _ (⟨⟨cell_below hS0xxx.1.1 HE_6275.out, cell_below hS0xxx.1.2.1 HE_6275.out, cell_below hS0xxx.1.2.2.1 HE_6275.out, cell_below hS0xxx.1.2.2.2 HE_6275.out⟩, ⟨cell_below hS0xxx.2.1.1 HE_6275.out, cell_below hS0xxx.2.1.2.1 HE_6275.out, cell_below hS0xxx.2.1.2.2.1 HE_6275.out, cell_below hS0xxx.2.1.2.2.2 HE_6275.out⟩, ⟨cell_below hS0xxx.2.2.1 HE_6275.out, cell_below hS0xxx.2.2.2.1 HE_6275.out, cell_below hS0xxx.2.2.2.2 HE_6275.out⟩⟩) (fun hS0xxxx => ?_)
                clear hK K
                try simp only [Act.put, List.setIfInBounds_toArray, List.set_cons_zero, List.set_cons_succ]
                refine RegL.wpAnyL_ready (rs := [8]) (by kernel_rfl) (by simp) ?_
                refine RegL.AllReadyL.late (o := ⟨none, Op.store 30 (Operand.tmp 15) (Operand.tmp 63), _, _, _, _⟩) rfl (by kernel_rfl) (fun K hK => ?_) RegL.AllReadyL.nil
                have hne : h3 ≠ h4 := by have z0 := Z_.out; have z_6 := Z_6.out; have y_6 := Y_6.out; have x_6 := Xh3_6.out; have z_62 := Z_62.out; have z_627 := Z_627.out; have y_627 := Y_627.out; have x_627 := Xh4_627.out; have z_6275 := Z_6275.out; omega
                have hs1 : wr.heap.size ≤ h3 := by have z0 := Z_.out; have z_6 := Z_6.out; have y_6 := Y_6.out; have x_6 := Xh3_6.out; have z_62 := Z_62.out; have z_627 := Z_627.out; have y_627 := Y_627.out; have x_627 := Xh4_627.out; have z_6275 := Z_6275.out; omega
                have hs2 : wr.heap.size ≤ h4 := by have z0 := Z_.out; have z_6 := Z_6.out; have y_6 := Y_6.out; have x_6 := Xh3_6.out; have z_62 := Z_62.out; have z_627 := Z_627.out; have y_627 := Y_627.out; have x_627 := Xh4_627.out; have z_6275 := Z_6275.out; omega
                have nph3 : ¬ Fp wr.heap.size w_6.heap.size w_62.heap.size h3 := by have z0 := Z_.out; have z_6 := Z_6.out; have y_6 := Y_6.out; have x_6 := Xh3_6.out; have z_62 := Z_62.out; have z_627 := Z_627.out; have y_627 := Y_627.out; have x_627 := Xh4_627.out; have z_6275 := Z_6275.out; unfold Fp; omega
                have nph4 : ¬ Fp wr.heap.size w_6.heap.size w_62.heap.size h4 := by have z0 := Z_.out; have z_6 := Z_6.out; have y_6 := Y_6.out; have x_6 := Xh3_6.out; have z_62 := Z_62.out; have z_627 := Z_627.out; have y_627 := Y_627.out; have x_627 := Xh4_627.out; have z_6275 := Z_6275.out; unfold Fp; omega
                have nqh3 : ¬ Fp wr.heap.size w_627.heap.size w_6275.heap.size h3 := by have z0 := Z_.out; have z_6 := Z_6.out; have y_6 := Y_6.out; have x_6 := Xh3_6.out; have z_62 := Z_62.out; have z_627 := Z_627.out; have y_627 := Y_627.out; have x_627 := Xh4_627.out; have z_6275 := Z_6275.out; unfold Fp; omega
                have nqh4 : ¬ Fp wr.heap.size w_627.heap.size w_6275.heap.size h4 := by have z0 := Z_.out; have z_6 := Z_6.out; have y_6 := Y_6.out; have x_6 := Xh3_6.out; have z_62 := Z_62.out; have z_627 := Z_627.out; have y_627 := Y_627.out; have x_627 := Xh4_627.out; have z_6275 := Z_6275.out; unfold Fp; omega
                have HP := Lib.hid (show P9 c d wr h3 h4 y b y' b' (doL L (o1 o)) _ from ⟨_, _, _, _, p3_of Bh3_6275.out Bh4_6275.out hne hs1 hs2 HV_6275.out y b n' p' y' b' m' q', (mapv4_far (mapv4_far MP_6275.out nph3 _ _ _ _) nph4 _ _ _ _).mono fun _ _ => trivial, (mapv4_far (mapv4_far MQ_6275.out nqh3 _ _ _ _) nqh4 _ _ _ _).mono fun _ _ => trivial⟩)
                clear nph3 nph4 nqh3 nqh4
                have hne2 : h4 ≠ h3 := fun h => hne h.symm
                obtain ⟨⟨e0, e1, e2, e3⟩, f0, f1, f2, f3⟩ := box4 Bh3_6275.out
                obtain ⟨⟨r0, r1, r2, r3⟩, s0, s1, s2, s3⟩ := box4 (put4_far Bh4_6275.out hne2 (.int .u64 y) (.int .i64 b) (.int .i64 n') (.pointer p'))
                go_simp
                refine hK.out _ _ ?_
                clear hK K
                try simp only [Act.put, List.setIfInBounds_toArray, List.set_cons_zero, List.set_cons_succ]
                refine RegL.wpAnyL_ready (rs := [9]) (by kernel_rfl) (by simp) ?_
                refine RegL.AllReadyL.late (o := ⟨none, Op.store 30 (Operand.tmp 16) (Operand.tmp 66), _, _, _, _⟩) rfl (by kernel_rfl) (fun K hK => ?_) RegL.AllReadyL.nil
                go_simp
                refine hK.out _ _ ?_
                clear hK K
                try simp only [Act.put, List.setIfInBounds_toArray, List.set_cons_zero, List.set_cons_succ]
                refine RegL.wpAnyL_done (by kernel_rfl) ?_ _
                refine NoPanic.normal ?_
                (go_wp2_with fail)
                go_meet
                exact ⟨_, _, rfl, rfl, HP⟩
              refine RegL.AllReadyL.calm (o := ⟨some 16, Op.alloc 30, _, _, _, _⟩) rfl (fun K hK => ?_) RegL.AllReadyL.nil
              go_simp
              have hb := (Below.refl w_6.heap.size w_6).alloc (Nat.le_refl _) (.cells #[.int .u64 0, .int .i64 0, .int .i64 0, .pointer none] MT)
              have hB := blk_new w_6 (.cells #[.int .u64 0, .int .i64 0, .int .i64 0, .pointer none] MT)
              have hz : (w_6.alloc (.cells #[.int .u64 0, .int .i64 0, .int .i64 0, .pointer none] MT)).heap.size = w_6.heap.size + 1 := by simp
              obtain ⟨h4, hh⟩ : ∃ h, h = w_6.heap.size := ⟨_, rfl⟩
              have Xh4_67 := Lib.hid hh
              rw [← hh] at hB ⊢
              clear hh
              generalize w_6.alloc (.cells #[.int .u64 0, .int .i64 0, .int .i64 0, .pointer none] MT) = w_67 at hb hB hz ⊢
              have HE_67 := Lib.hid hb; have Bh4_67 := Lib.hid hB; have Y_67 := Lib.hid hz
              clear hb hB hz
              have Z_67 := Lib.hid HE_67.out.size
              have HV_67 := Lib.hid (below_trans HV_6.out HE_67.out)
              have Bh3_67 := Lib.hid (blk_below Bh3_6.out HE_67.out)
              (try dsimp only)
              refine hK.out _ _ (⟨⟨cell_below hS0x.1.1 HE_67.out, cell_below hS0x.1.2.1 HE_67.out, cell_below hS0x.1.2.2.1 HE_67.out, cell_below hS0x.1.2.2.2 HE_67.out⟩, ⟨cell_below hS0x.2.1.1 HE_67.out, cell_below hS0x.2.1.2.1 HE_67.out, cell_below hS0x.2.1.2.2.1 HE_67.out, cell_below hS0x.2.1.2.2.2 HE_67.out⟩, ⟨cell_below hS0x.2.2.1 HE_67.out, cell_below hS0x.2.2.2.1 HE_67.out, cell_below hS0x.2.2.2.2 HE_67.out⟩⟩) (fun hS0xx => ?_)
              clear hK K
              try simp only [Act.put, List.setIfInBounds_toArray, List.set_cons_zero, List.set_cons_succ]
              refine RegL.wpAnyL_ready (rs := [2]) (by kernel_rfl) (by simp) ?_
              refine RegL.AllReadyL.calm (o := ⟨some 63, Op.call { callee := Callee.value (Operand.func 20), args := #[Operand.tmp 61, Operand.tmp 62], argTypes := #[30, 37] }, _, _, _, _⟩) rfl (fun K hK => ?_) RegL.AllReadyL.nil
              go_simp
              refine (HDO.out _ HV_67.out).mono ?_
              rintro e w_672 ⟨v, rfl, ⟨n', p', rfl, hm⟩, hb⟩
              have HE_672 := Lib.hid hb
              clear hb
              have MP_672 := Lib.hid (fp_of (fun x hx => hx.2) hm)
              clear hm
              have Z_672 := Lib.hid HE_672.out.size
              have HV_672 := Lib.hid (below_trans HV_67.out HE_672.out)
              have Bh3_672 := Lib.hid (blk_below Bh3_67.out HE_672.out)
              have Bh4_672 := Lib.hid (blk_below Bh4_67.out HE_672.out)
              (try dsimp only)
              refine hK.out _ _ (⟨⟨cell_below hS0xx.1.1 HE_672.out, cell_below hS0xx.1.2.1 HE_672.out, cell_below hS0xx.1.2.2.1 HE_672.out, cell_below hS0xx.1.2.2.2 HE_672.out⟩, ⟨cell_below hS0xx.2.1.1 HE_672.out, cell_below hS0xx.2.1.2.1 HE_672.out, cell_below hS0xx.2.1.2.2.1 HE_672.out, cell_below hS0xx.2.1.2.2.2 HE_672.out⟩, ⟨cell_below hS0xx.2.2.1 HE_672.out, cell_below hS0xx.2.2.2.1 HE_672.out, cell_below hS0xx.2.2.2.2 HE_672.out⟩⟩) (fun hS0xxx => ?_)
              clear hK K
              try simp only [Act.put, List.setIfInBounds_toArray, List.set_cons_zero, List.set_cons_succ]
              refine RegL.wpAnyL_ready (rs := [5]) (by kernel_rfl) (by simp) ?_
              refine RegL.AllReadyL.calm (o := ⟨some 66, Op.call { callee := Callee.value (Operand.func 20), args := #[Operand.tmp 64, Operand.tmp 65], argTypes := #[30, 37] }, _, _, _, _⟩) rfl (fun K hK => ?_) RegL.AllReadyL.nil
              go_simp
              refine (HDN.out _ HV_672.out).mono ?_
              rintro e w_6725 ⟨v, rfl, ⟨m', q', rfl, hm⟩, hb⟩
              have HE_6725 := Lib.hid hb
              clear hb
              have MQ_6725 := Lib.hid (fp_of (fun x hx => hx.2) hm)
              clear hm
              have Z_6725 := Lib.hid HE_6725.out.size
              have HV_6725 := Lib.hid (below_trans HV_672.out HE_6725.out)
              have Bh3_6725 := Lib.hid (blk_below Bh3_672.out HE_6725.out)
              have Bh4_6725 := Lib.hid (blk_below Bh4_672.out HE_6725.out)
              have MP_6725 := Lib.hid (MP_672.out.below HE_6725.out)
              (try dsimp only)
              refine hK.out _ _ (⟨⟨cell_below hS0xxx.1.1 HE_6725.out, cell_below hS0xxx.1.2.1 HE_6725.out, cell_below hS0xxx.1.2.2.1 HE_6725.out, cell_below hS0xxx.1.2.2.2 HE_6725.out⟩, ⟨cell_below hS0xxx.2.1.1 HE_6725.out, cell_below hS0xxx.2.1.2.1 HE_6725.out, cell_below hS0xxx.2.1.2.2.1 HE_6725.out, cell_below hS0xxx.2.1.2.2.2 HE_6725.out⟩, ⟨cell_below hS0xxx.2.2.1 HE_6725.out, cell_below hS0xxx.2.2.2.1 HE_6725.out, cell_below hS0xxx.2.2.2.2 HE_6725.out⟩⟩) (fun hS0xxxx => ?_)
              clear hK K
              try simp only [Act.put, List.setIfInBounds_toArray, List.set_cons_zero, List.set_cons_succ]
              refine RegL.wpAnyL_ready (rs := [8]) (by kernel_rfl) (by simp) ?_
              refine RegL.AllReadyL.late (o := ⟨none, Op.store 30 (Operand.tmp 15) (Operand.tmp 63), _, _, _, _⟩) rfl (by kernel_rfl) (fun K hK => ?_) RegL.AllReadyL.nil
              have hne : h3 ≠ h4 := by have z0 := Z_.out; have z_6 := Z_6.out; have y_6 := Y_6.out; have x_6 := Xh3_6.out; have z_67 := Z_67.out; have y_67 := Y_67.out; have x_67 := Xh4_67.out; have z_672 := Z_672.out; have z_6725 := Z_6725.out; omega
              have hs1 : wr.heap.size ≤ h3 := by have z0 := Z_.out; have z_6 := Z_6.out; have y_6 := Y_6.out; have x_6 := Xh3_6.out; have z_67 := Z_67.out; have y_67 := Y_67.out; have x_67 := Xh4_67.out; have z_672 := Z_672.out; have z_6725 := Z_6725.out; omega
              have hs2 : wr.heap.size ≤ h4 := by have z0 := Z_.out; have z_6 := Z_6.out; have y_6 := Y_6.out; have x_6 := Xh3_6.out; have z_67 := Z_67.out; have y_67 := Y_67.out; have x_67 := Xh4_67.out; have z_672 := Z_672.out; have z_6725 := Z_6725.out; omega
              have nph3 : ¬ Fp wr.heap.size w_67.heap.size w_672.heap.size h3 := by have z0 := Z_.out; have z_6 := Z_6.out; have y_6 := Y_6.out; have x_6 := Xh3_6.out; have z_67 := Z_67.out; have y_67 := Y_67.out; have x_67 := Xh4_67.out; have z_672 := Z_672.out; have z_6725 := Z_6725.out; unfold Fp; omega
              have nph4 : ¬ Fp wr.heap.size w_67.heap.size w_672.heap.size h4 := by have z0 := Z_.out; have z_6 := Z_6.out; have y_6 := Y_6.out; have x_6 := Xh3_6.out; have z_67 := Z_67.out; have y_67 := Y_67.out; have x_67 := Xh4_67.out; have z_672 := Z_672.out; have z_6725 := Z_6725.out; unfold Fp; omega
              have nqh3 : ¬ Fp wr.heap.size w_672.heap.size w_6725.heap.size h3 := by have z0 := Z_.out; have z_6 := Z_6.out; have y_6 := Y_6.out; have x_6 := Xh3_6.out; have z_67 := Z_67.out; have y_67 := Y_67.out; have x_67 := Xh4_67.out; have z_672 := Z_672.out; have z_6725 := Z_6725.out; unfold Fp; omega
              have nqh4 : ¬ Fp wr.heap.size w_672.heap.size w_6725.heap.size h4 := by have z0 := Z_.out; have z_6 := Z_6.out; have y_6 := Y_6.out; have x_6 := Xh3_6.out; have z_67 := Z_67.out; have y_67 := Y_67.out; have x_67 := Xh4_67.out; have z_672 := Z_672.out; have z_6725 := Z_6725.out; unfold Fp; omega
              have HP := Lib.hid (show P9 c d wr h3 h4 y b y' b' (doL L (o1 o)) _ from ⟨_, _, _, _, p3_of Bh3_6725.out Bh4_6725.out hne hs1 hs2 HV_6725.out y b n' p' y' b' m' q', (mapv4_far (mapv4_far MP_6725.out nph3 _ _ _ _) nph4 _ _ _ _).mono fun _ _ => trivial, (mapv4_far (mapv4_far MQ_6725.out nqh3 _ _ _ _) nqh4 _ _ _ _).mono fun _ _ => trivial⟩)
              clear nph3 nph4 nqh3 nqh4
              have hne2 : h4 ≠ h3 := fun h => hne h.symm
              obtain ⟨⟨e0, e1, e2, e3⟩, f0, f1, f2, f3⟩ := box4 Bh3_6725.out
              obtain ⟨⟨r0, r1, r2, r3⟩, s0, s1, s2, s3⟩ := box4 (put4_far Bh4_6725.out hne2 (.int .u64 y) (.int .i64 b) (.int .i64 n') (.pointer p'))
              go_simp
              refine hK.out _ _ ?_
              clear hK K
              try simp only [Act.put, List.setIfInBounds_toArray, List.set_cons_zero, List.set_cons_succ]
              refine RegL.wpAnyL_ready (rs := [9]) (by kernel_rfl) (by simp) ?_
              refine RegL.AllReadyL.late (o := ⟨none, Op.store 30 (Operand.tmp 16) (Operand.tmp 66), _, _, _, _⟩) rfl (by kernel_rfl) (fun K hK => ?_) RegL.AllReadyL.nil
              go_simp
              refine hK.out _ _ ?_
              clear hK K
              try simp only [Act.put, List.setIfInBounds_toArray, List.set_cons_zero, List.set_cons_succ]
              refine RegL.wpAnyL_done (by kernel_rfl) ?_ _
              refine NoPanic.normal ?_
              (go_wp2_with fail)
              go_meet
              exact ⟨_, _, rfl, rfl, HP⟩
            refine RegL.AllReadyL.calm (o := ⟨some 16, Op.alloc 30, _, _, _, _⟩) rfl (fun K hK => ?_) RegL.AllReadyL.nil
            go_simp
            have hb := (Below.refl V0.heap.size V0).alloc (Nat.le_refl _) (.cells #[.int .u64 0, .int .i64 0, .int .i64 0, .pointer none] MT)
            have hB := blk_new V0 (.cells #[.int .u64 0, .int .i64 0, .int .i64 0, .pointer none] MT)
            have hz : (V0.alloc (.cells #[.int .u64 0, .int .i64 0, .int .i64 0, .pointer none] MT)).heap.size = V0.heap.size + 1 := by simp
            obtain ⟨h4, hh⟩ : ∃ h, h = V0.heap.size := ⟨_, rfl⟩
            have Xh4_7 := Lib.hid hh
            rw [← hh] at hB ⊢
            clear hh
            generalize V0.alloc (.cells #[.int .u64 0, .int .i64 0, .int .i64 0, .pointer none] MT) = w_7 at hb hB hz ⊢
            have HE_7 := Lib.hid hb; have Bh4_7 := Lib.hid hB; have Y_7 := Lib.hid hz
            clear hb hB hz
            have Z_7 := Lib.hid HE_7.out.size
            have HV_7 := Lib.hid (below_trans HV_.out HE_7.out)
            (try dsimp only)
            refine hK.out _ _ (⟨⟨cell_below hS0.1.1 HE_7.out, cell_below hS0.1.2.1 HE_7.out, cell_below hS0.1.2.2.1 HE_7.out, cell_below hS0.1.2.2.2 HE_7.out⟩, ⟨cell_below hS0.2.1.1 HE_7.out, cell_below hS0.2.1.2.1 HE_7.out, cell_below hS0.2.1.2.2.1 HE_7.out, cell_below hS0.2.1.2.2.2 HE_7.out⟩, ⟨cell_below hS0.2.2.1 HE_7.out, cell_below hS0.2.2.2.1 HE_7.out, cell_below hS0.2.2.2.2 HE_7.out⟩⟩) (fun hS0x => ?_)
            clear hK K
            try simp only [Act.put, List.setIfInBounds_toArray, List.set_cons_zero, List.set_cons_succ]
            refine RegL.wpAnyL_ready (rs := [2, 6]) (by kernel_rfl) (by simp) ?_
            refine RegL.AllReadyL.calm (o := ⟨some 63, Op.call { callee := Callee.value (Operand.func 20), args := #[Operand.tmp 61, Operand.tmp 62], argTypes := #[30, 37] }, _, _, _, _⟩) rfl (fun K hK => ?_) ?_
            · go_simp
              refine (HDO.out _ HV_7.out).mono ?_
              rintro e w_72 ⟨v, rfl, ⟨n', p', rfl, hm⟩, hb⟩
              have HE_72 := Lib.hid hb
              clear hb
              have MP_72 := Lib.hid (fp_of (fun x hx => hx.2) hm)
              clear hm
              have Z_72 := Lib.hid HE_72.out.size
              have HV_72 := Lib.hid (below_trans HV_7.out HE_72.out)
              have Bh4_72 := Lib.hid (blk_below Bh4_7.out HE_72.out)
              (try dsimp only)
              refine hK.out _ _ (⟨⟨cell_below hS0x.1.1 HE_72.out, cell_below hS0x.1.2.1 HE_72.out, cell_below hS0x.1.2.2.1 HE_72.out, cell_below hS0x.1.2.2.2 HE_72.out⟩, ⟨cell_below hS0x.2.1.1 HE_72.out, cell_below hS0x.2.1.2.1 HE_72.out, cell_below hS0x.2.1.2.2.1 HE_72.out, cell_below hS0x.2.1.2.2.2 HE_72.out⟩, ⟨cell_below hS0x.2.2.1 HE_72.out, cell_below hS0x.2.2.2.1 HE_72.out, cell_below hS0x.2.2.2.2 HE_72.out⟩⟩) (fun hS0xx => ?_)
              clear hK K
              try simp only [Act.put, List.setIfInBounds_toArray, List.set_cons_zero, List.set_cons_succ]
              refine RegL.wpAnyL_ready (rs := [5, 6]) (by kernel_rfl) (by simp) ?_
              refine RegL.AllReadyL.calm (o := ⟨some 66, Op.call { callee := Callee.value (Operand.func 20), args := #[Operand.tmp 64, Operand.tmp 65], argTypes := #[30, 37] }, _, _, _, _⟩) rfl (fun K hK => ?_) ?_
              · go_simp
                refine (HDN.out _ HV_72.out).mono ?_
                rintro e w_725 ⟨v, rfl, ⟨m', q', rfl, hm⟩, hb⟩
                have HE_725 := Lib.hid hb
                clear hb
                have MQ_725 := Lib.hid (fp_of (fun x hx => hx.2) hm)
                clear hm
                have Z_725 := Lib.hid HE_725.out.size
                have HV_725 := Lib.hid (below_trans HV_72.out HE_725.out)
                have Bh4_725 := Lib.hid (blk_below Bh4_72.out HE_725.out)
                have MP_725 := Lib.hid (MP_72.out.below HE_725.out)
                (try dsimp only)
                refine hK.out _ _ (⟨⟨cell_below hS0xx.1.1 HE_725.out, cell_below hS0xx.1.2.1 HE_725.out, cell_below hS0xx.1.2.2.1 HE_725.out, cell_below hS0xx.1.2.2.2 HE_725.out⟩, ⟨cell_below hS0xx.2.1.1 HE_725.out, cell_below hS0xx.2.1.2.1 HE_725.out, cell_below hS0xx.2.1.2.2.1 HE_725.out, cell_below hS0xx.2.1.2.2.2 HE_725.out⟩, ⟨cell_below hS0xx.2.2.1 HE_725.out, cell_below hS0xx.2.2.2.1 HE_725.out, cell_below hS0xx.2.2.2.2 HE_725.out⟩⟩) (fun hS0xxx => ?_)
                clear hK K
                try simp only [Act.put, List.setIfInBounds_toArray, List.set_cons_zero, List.set_cons_succ]
                refine RegL.wpAnyL_ready (rs := [6]) (by kernel_rfl) (by simp) ?_
                refine RegL.AllReadyL.calm (o := ⟨some 15, Op.alloc 30, _, _, _, _⟩) rfl (fun K hK => ?_) RegL.AllReadyL.nil
                go_simp
                have hb := (Below.refl w_725.heap.size w_725).alloc (Nat.le_refl _) (.cells #[.int .u64 0, .int .i64 0, .int .i64 0, .pointer none] MT)
                have hB := blk_new w_725 (.cells #[.int .u64 0, .int .i64 0, .int .i64 0, .pointer none] MT)
                have hz : (w_725.alloc (.cells #[.int .u64 0, .int .i64 0, .int .i64 0, .pointer none] MT)).heap.size = w_725.heap.size + 1 := by simp
                obtain ⟨h3, hh⟩ : ∃ h, h = w_725.heap.size := ⟨_, rfl⟩
                have Xh3_7256 := Lib.hid hh
                rw [← hh] at hB ⊢
                clear hh
                generalize w_725.alloc (.cells #[.int .u64 0, .int .i64 0, .int .i64 0, .pointer none] MT) = w_7256 at hb hB hz ⊢
                have HE_7256 := Lib.hid hb; have Bh3_7256 := Lib.hid hB; have Y_7256 := Lib.hid hz
                clear hb hB hz
                have Z_7256 := Lib.hid HE_7256.out.size
                have HV_7256 := Lib.hid (below_trans HV_725.out HE_7256.out)
                have Bh4_7256 := Lib.hid (blk_below Bh4_725.out HE_7256.out)
                have MP_7256 := Lib.hid (MP_725.out.below HE_7256.out)
                have MQ_7256 := Lib.hid (MQ_725.out.below HE_7256.out)
                (try dsimp only)
                refine hK.out _ _ (⟨⟨cell_below hS0xxx.1.1 HE_7256.out, cell_below hS0xxx.1.2.1 HE_7256.out, cell_below hS0xxx.1.2.2.1 HE_7256.out, cell_below hS0xxx.1.2.2.2 HE_7256.out⟩, ⟨cell_below hS0xxx.2.1.1 HE_7256.out, cell_below hS0xxx.2.1.2.1 HE_7256.out, cell_below hS0xxx.2.1.2.2.1 HE_7256.out, cell_below hS0xxx.2.1.2.2.2 HE_7256.out⟩, ⟨cell_below hS0xxx.2.2.1 HE_7256.out, cell_below hS0xxx.2.2.2.1 HE_7256.out, cell_below hS0xxx.2.2.2.2 HE_7256.out⟩⟩) (fun hS0xxxx => ?_)
                clear hK K
                try simp only [Act.put, List.setIfInBounds_toArray, List.set_cons_zero, List.set_cons_succ]
                refine RegL.wpAnyL_ready (rs := [8]) (by kernel_rfl) (by simp) ?_
                refine RegL.AllReadyL.late (o := ⟨none, Op.store 30 (Operand.tmp 15) (Operand.tmp 63), _, _, _, _⟩) rfl (by kernel_rfl) (fun K hK => ?_) RegL.AllReadyL.nil
                have hne : h3 ≠ h4 := by have z0 := Z_.out; have z_7 := Z_7.out; have y_7 := Y_7.out; have x_7 := Xh4_7.out; have z_72 := Z_72.out; have z_725 := Z_725.out; have z_7256 := Z_7256.out; have y_7256 := Y_7256.out; have x_7256 := Xh3_7256.out; omega
                have hs1 : wr.heap.size ≤ h3 := by have z0 := Z_.out; have z_7 := Z_7.out; have y_7 := Y_7.out; have x_7 := Xh4_7.out; have z_72 := Z_72.out; have z_725 := Z_725.out; have z_7256 := Z_7256.out; have y_7256 := Y_7256.out; have x_7256 := Xh3_7256.out; omega
                have hs2 : wr.heap.size ≤ h4 := by have z0 := Z_.out; have z_7 := Z_7.out; have y_7 := Y_7.out; have x_7 := Xh4_7.out; have z_72 := Z_72.out; have z_725 := Z_725.out; have z_7256 := Z_7256.out; have y_7256 := Y_7256.out; have x_7256 := Xh3_7256.out; omega
                have nph3 : ¬ Fp wr.heap.size w_7.heap.size w_72.heap.size h3 := by have z0 := Z_.out; have z_7 := Z_7.out; have y_7 := Y_7.out; have x_7 := Xh4_7.out; have z_72 := Z_72.out; have z_725 := Z_725.out; have z_7256 := Z_7256.out; have y_7256 := Y_7256.out; have x_7256 := Xh3_7256.out; unfold Fp; omega
                have nph4 : ¬ Fp wr.heap.size w_7.heap.size w_72.heap.size h4 := by have z0 := Z_.out; have z_7 := Z_7.out; have y_7 := Y_7.out; have x_7 := Xh4_7.out; have z_72 := Z_72.out; have z_725 := Z_725.out; have z_7256 := Z_7256.out; have y_7256 := Y_7256.out; have x_7256 := Xh3_7256.out; unfold Fp; omega
                have nqh3 : ¬ Fp wr.heap.size w_72.heap.size w_725.heap.size h3 := by have z0 := Z_.out; have z_7 := Z_7.out; have y_7 := Y_7.out; have x_7 := Xh4_7.out; have z_72 := Z_72.out; have z_725 := Z_725.out; have z_7256 := Z_7256.out; have y_7256 := Y_7256.out; have x_7256 := Xh3_7256.out; unfold Fp; omega
                have nqh4 : ¬ Fp wr.heap.size w_72.heap.size w_725.heap.size h4 := by have z0 := Z_.out; have z_7 := Z_7.out; have y_7 := Y_7.out; have x_7 := Xh4_7.out; have z_72 := Z_72.out; have z_725 := Z_725.out; have z_7256 := Z_7256.out; have y_7256 := Y_7256.out; have x_7256 := Xh3_7256.out; unfold Fp; omega
                have HP := Lib.hid (show P9 c d wr h3 h4 y b y' b' (doL L (o1 o)) _ from ⟨_, _, _, _, p3_of Bh3_7256.out Bh4_7256.out hne hs1 hs2 HV_7256.out y b n' p' y' b' m' q', (mapv4_far (mapv4_far MP_7256.out nph3 _ _ _ _) nph4 _ _ _ _).mono fun _ _ => trivial, (mapv4_far (mapv4_far MQ_7256.out nqh3 _ _ _ _) nqh4 _ _ _ _).mono fun _ _ => trivial⟩)
                clear nph3 nph4 nqh3 nqh4
                have hne2 : h4 ≠ h3 := fun h => hne h.symm
                obtain ⟨⟨e0, e1, e2, e3⟩, f0, f1, f2, f3⟩ := box4 Bh3_7256.out
                obtain ⟨⟨r0, r1, r2, r3⟩, s0, s1, s2, s3⟩ := box4 (put4_far Bh4_7256.out hne2 (.int .u64 y) (.int .i64 b) (.int .i64 n') (.pointer p'))
                go_simp
                refine hK.out _ _ ?_
                clear hK K
                try simp only [Act.put, List.setIfInBounds_toArray, List.set_cons_zero, List.set_cons_succ]
                refine RegL.wpAnyL_ready (rs := [9]) (by kernel_rfl) (by simp) ?_
                refine RegL.AllReadyL.late (o := ⟨none, Op.store 30 (Operand.tmp 16) (Operand.tmp 66), _, _, _, _⟩) rfl (by kernel_rfl) (fun K hK => ?_) RegL.AllReadyL.nil
                go_simp
                refine hK.out _ _ ?_
                clear hK K
                try simp only [Act.put, List.setIfInBounds_toArray, List.set_cons_zero, List.set_cons_succ]
                refine RegL.wpAnyL_done (by kernel_rfl) ?_ _
                refine NoPanic.normal ?_
                (go_wp2_with fail)
                go_meet
                exact ⟨_, _, rfl, rfl, HP⟩
              refine RegL.AllReadyL.calm (o := ⟨some 15, Op.alloc 30, _, _, _, _⟩) rfl (fun K hK => ?_) RegL.AllReadyL.nil
              go_simp
              have hb := (Below.refl w_72.heap.size w_72).alloc (Nat.le_refl _) (.cells #[.int .u64 0, .int .i64 0, .int .i64 0, .pointer none] MT)
              have hB := blk_new w_72 (.cells #[.int .u64 0, .int .i64 0, .int .i64 0, .pointer none] MT)
              have hz : (w_72.alloc (.cells #[.int .u64 0, .int .i64 0, .int .i64 0, .pointer none] MT)).heap.size = w_72.heap.size + 1 := by simp
              obtain ⟨h3, hh⟩ : ∃ h, h = w_72.heap.size := ⟨_, rfl⟩
              have Xh3_726 := Lib.hid hh
              rw [← hh] at hB ⊢
              clear hh
              generalize w_72.alloc (.cells #[.int .u64 0, .int .i64 0, .int .i64 0, .pointer none] MT) = w_726 at hb hB hz ⊢
              have HE_726 := Lib.hid hb; have Bh3_726 := Lib.hid hB; have Y_726 := Lib.hid hz
              clear hb hB hz
              have Z_726 := Lib.hid HE_726.out.size
              have HV_726 := Lib.hid (below_trans HV_72.out HE_726.out)
              have Bh4_726 := Lib.hid (blk_below Bh4_72.out HE_726.out)
              have MP_726 := Lib.hid (MP_72.out.below HE_726.out)
              (try dsimp only)
              refine hK.out _ _ (⟨⟨cell_below hS0xx.1.1 HE_726.out, cell_below hS0xx.1.2.1 HE_726.out, cell_below hS0xx.1.2.2.1 HE_726.out, cell_below hS0xx.1.2.2.2 HE_726.out⟩, ⟨cell_below hS0xx.2.1.1 HE_726.out, cell_below hS0xx.2.1.2.1 HE_726.out, cell_below hS0xx.2.1.2.2.1 HE_726.out, cell_below hS0xx.2.1.2.2.2 HE_726.out⟩, ⟨cell_below hS0xx.2.2.1 HE_726.out, cell_below hS0xx.2.2.2.1 HE_726.out, cell_below hS0xx.2.2.2.2 HE_726.out⟩⟩) (fun hS0xxx => ?_)
              clear hK K
              try simp only [Act.put, List.setIfInBounds_toArray, List.set_cons_zero, List.set_cons_succ]
              refine RegL.wpAnyL_ready (rs := [5]) (by kernel_rfl) (by simp) ?_
              refine RegL.AllReadyL.calm (o := ⟨some 66, Op.call { callee := Callee.value (Operand.func 20), args := #[Operand.tmp 64, Operand.tmp 65], argTypes := #[30, 37] }, _, _, _, _⟩) rfl (fun K hK => ?_) RegL.AllReadyL.nil
              go_simp
              refine (HDN.out _ HV_726.out).mono ?_
              rintro e w_7265 ⟨v, rfl, ⟨m', q', rfl, hm⟩, hb⟩
              have HE_7265 := Lib.hid hb
              clear hb
              have MQ_7265 := Lib.hid (fp_of (fun x hx => hx.2) hm)
              clear hm
              have Z_7265 := Lib.hid HE_7265.out.size
              have HV_7265 := Lib.hid (below_trans HV_726.out HE_7265.out)
              have Bh4_7265 := Lib.hid (blk_below Bh4_726.out HE_7265.out)
              have MP_7265 := Lib.hid (MP_726.out.below HE_7265.out)
              have Bh3_7265 := Lib.hid (blk_below Bh3_726.out HE_7265.out)
              (try dsimp only)
              refine hK.out _ _ (⟨⟨cell_below hS0xxx.1.1 HE_7265.out, cell_below hS0xxx.1.2.1 HE_7265.out, cell_below hS0xxx.1.2.2.1 HE_7265.out, cell_below hS0xxx.1.2.2.2 HE_7265.out⟩, ⟨cell_below hS0xxx.2.1.1 HE_7265.out, cell_below hS0xxx.2.1.2.1 HE_7265.out, cell_below hS0xxx.2.1.2.2.1 HE_7265.out, cell_below hS0xxx.2.1.2.2.2 HE_7265.out⟩, ⟨cell_below hS0xxx.2.2.1 HE_7265.out, cell_below hS0xxx.2.2.2.1 HE_7265.out, cell_below hS0xxx.2.2.2.2 HE_7265.out⟩⟩) (fun hS0xxxx => ?_)
              clear hK K
              try simp only [Act.put, List.setIfInBounds_toArray, List.set_cons_zero, List.set_cons_succ]
              refine RegL.wpAnyL_ready (rs := [8]) (by kernel_rfl) (by simp) ?_
              refine RegL.AllReadyL.late (o := ⟨none, Op.store 30 (Operand.tmp 15) (Operand.tmp 63), _, _, _, _⟩) rfl (by kernel_rfl) (fun K hK => ?_) RegL.AllReadyL.nil
              have hne : h3 ≠ h4 := by have z0 := Z_.out; have z_7 := Z_7.out; have y_7 := Y_7.out; have x_7 := Xh4_7.out; have z_72 := Z_72.out; have z_726 := Z_726.out; have y_726 := Y_726.out; have x_726 := Xh3_726.out; have z_7265 := Z_7265.out; omega
              have hs1 : wr.heap.size ≤ h3 := by have z0 := Z_.out; have z_7 := Z_7.out; have y_7 := Y_7.out; have x_7 := Xh4_7.out; have z_72 := Z_72.out; have z_726 := Z_726.out; have y_726 := Y_726.out; have x_726 := Xh3_726.out; have z_7265 := Z_7265.out; omega
              have hs2 : wr.heap.size ≤ h4 := by have z0 := Z_.out; have z_7 := Z_7.out; have y_7 := Y_7.out; have x_7 := Xh4_7.out; have z_72 := Z_72.out; have z_726 := Z_726.out; have y_726 := Y_726.out; have x_726 := Xh3_726.out; have z_7265 := Z_7265.out; omega
              have nph3 : ¬ Fp wr.heap.size w_7.heap.size w_72.heap.size h3 := by have z0 := Z_.out; have z_7 := Z_7.out; have y_7 := Y_7.out; have x_7 := Xh4_7.out; have z_72 := Z_72.out; have z_726 := Z_726.out; have y_726 := Y_726.out; have x_726 := Xh3_726.out; have z_7265 := Z_7265.out; unfold Fp; omega
              have nph4 : ¬ Fp wr.heap.size w_7.heap.size w_72.heap.size h4 := by have z0 := Z_.out; have z_7 := Z_7.out; have y_7 := Y_7.out; have x_7 := Xh4_7.out; have z_72 := Z_72.out; have z_726 := Z_726.out; have y_726 := Y_726.out; have x_726 := Xh3_726.out; have z_7265 := Z_7265.out; unfold Fp; omega
              have nqh3 : ¬ Fp wr.heap.size w_726.heap.size w_7265.heap.size h3 := by have z0 := Z_.out; have z_7 := Z_7.out; have y_7 := Y_7.out; have x_7 := Xh4_7.out; have z_72 := Z_72.out; have z_726 := Z_726.out; have y_726 := Y_726.out; have x_726 := Xh3_726.out; have z_7265 := Z_7265.out; unfold Fp; omega
              have nqh4 : ¬ Fp wr.heap.size w_726.heap.size w_7265.heap.size h4 := by have z0 := Z_.out; have z_7 := Z_7.out; have y_7 := Y_7.out; have x_7 := Xh4_7.out; have z_72 := Z_72.out; have z_726 := Z_726.out; have y_726 := Y_726.out; have x_726 := Xh3_726.out; have z_7265 := Z_7265.out; unfold Fp; omega
              have HP := Lib.hid (show P9 c d wr h3 h4 y b y' b' (doL L (o1 o)) _ from ⟨_, _, _, _, p3_of Bh3_7265.out Bh4_7265.out hne hs1 hs2 HV_7265.out y b n' p' y' b' m' q', (mapv4_far (mapv4_far MP_7265.out nph3 _ _ _ _) nph4 _ _ _ _).mono fun _ _ => trivial, (mapv4_far (mapv4_far MQ_7265.out nqh3 _ _ _ _) nqh4 _ _ _ _).mono fun _ _ => trivial⟩)
              clear nph3 nph4 nqh3 nqh4
              have hne2 : h4 ≠ h3 := fun h => hne h.symm
              obtain ⟨⟨e0, e1, e2, e3⟩, f0, f1, f2, f3⟩ := box4 Bh3_7265.out
              obtain ⟨⟨r0, r1, r2, r3⟩, s0, s1, s2, s3⟩ := box4 (put4_far Bh4_7265.out hne2 (.int .u64 y) (.int .i64 b) (.int .i64 n') (.pointer p'))
              go_simp
              refine hK.out _ _ ?_
              clear hK K
              try simp only [Act.put, List.setIfInBounds_toArray, List.set_cons_zero, List.set_cons_succ]
              refine RegL.wpAnyL_ready (rs := [9]) (by kernel_rfl) (by simp) ?_
              refine RegL.AllReadyL.late (o := ⟨none, Op.store 30 (Operand.tmp 16) (Operand.tmp 66), _, _, _, _⟩) rfl (by kernel_rfl) (fun K hK => ?_) RegL.AllReadyL.nil
              go_simp
              refine hK.out _ _ ?_
              clear hK K
              try simp only [Act.put, List.setIfInBounds_toArray, List.set_cons_zero, List.set_cons_succ]
              refine RegL.wpAnyL_done (by kernel_rfl) ?_ _
              refine NoPanic.normal ?_
              (go_wp2_with fail)
              go_meet
              exact ⟨_, _, rfl, rfl, HP⟩
            refine RegL.AllReadyL.calm (o := ⟨some 15, Op.alloc 30, _, _, _, _⟩) rfl (fun K hK => ?_) RegL.AllReadyL.nil
            go_simp
            have hb := (Below.refl w_7.heap.size w_7).alloc (Nat.le_refl _) (.cells #[.int .u64 0, .int .i64 0, .int .i64 0, .pointer none] MT)
            have hB := blk_new w_7 (.cells #[.int .u64 0, .int .i64 0, .int .i64 0, .pointer none] MT)
            have hz : (w_7.alloc (.cells #[.int .u64 0, .int .i64 0, .int .i64 0, .pointer none] MT)).heap.size = w_7.heap.size + 1 := by simp
            obtain ⟨h3, hh⟩ : ∃ h, h = w_7.heap.size := ⟨_, rfl⟩
            have Xh3_76 := Lib.hid hh
            rw [← hh] at hB ⊢
            clear hh
            generalize w_7.alloc (.cells #[.int .u64 0, .int .i64 0, .int .i64 0, .pointer none] MT) = w_76 at hb hB hz ⊢
            have HE_76 := Lib.hid hb; have Bh3_76 := Lib.hid hB; have Y_76 := Lib.hid hz
            clear hb hB hz
            have Z_76 := Lib.hid HE_76.out.size
            have HV_76 := Lib.hid (below_trans HV_7.out HE_76.out)
            have Bh4_76 := Lib.hid (blk_below Bh4_7.out HE_76.out)
            (try dsimp only)
            refine hK.out _ _ (⟨⟨cell_below hS0x.1.1 HE_76.out, cell_below hS0x.1.2.1 HE_76.out, cell_below hS0x.1.2.2.1 HE_76.out, cell_below hS0x.1.2.2.2 HE_76.out⟩, ⟨cell_below hS0x.2.1.1 HE_76.out, cell_below hS0x.2.1.2.1 HE_76.out, cell_below hS0x.2.1.2.2.1 HE_76.out, cell_below hS0x.2.1.2.2.2 HE_76.out⟩, ⟨cell_below hS0x.2.2.1 HE_76.out, cell_below hS0x.2.2.2.1 HE_76.out, cell_below hS0x.2.2.2.2 HE_76.out⟩⟩) (fun hS0xx => ?_)
            clear hK K
            try simp only [Act.put, List.setIfInBounds_toArray, List.set_cons_zero, List.set_cons_succ]
            refine RegL.wpAnyL_ready (rs := [2]) (by kernel_rfl) (by simp) ?_
            refine RegL.AllReadyL.calm (o := ⟨some 63, Op.call { callee := Callee.value (Operand.func 20), args := #[Operand.tmp 61, Operand.tmp 62], argTypes := #[30, 37] }, _, _, _, _⟩) rfl (fun K hK => ?_) RegL.AllReadyL.nil
            go_simp
            refine (HDO.out _ HV_76.out).mono ?_
            rintro e w_762 ⟨v, rfl, ⟨n', p', rfl, hm⟩, hb⟩
            have HE_762 := Lib.hid hb
            clear hb
            have MP_762 := Lib.hid (fp_of (fun x hx => hx.2) hm)
            clear hm
            have Z_762 := Lib.hid HE_762.out.size
            have HV_762 := Lib.hid (below_trans HV_76.out HE_762.out)
            have Bh4_762 := Lib.hid (blk_below Bh4_76.out HE_762.out)
            have Bh3_762 := Lib.hid (blk_below Bh3_76.out HE_762.out)
            (try dsimp only)
            refine hK.out _ _ (⟨⟨cell_below hS0xx.1.1 HE_762.out, cell_below hS0xx.1.2.1 HE_762.out, cell_below hS0xx.1.2.2.1 HE_762.out, cell_below hS0xx.1.2.2.2 HE_762.out⟩, ⟨cell_below hS0xx.2.1.1 HE_762.out, cell_below hS0xx.2.1.2.1 HE_762.out, cell_below hS0xx.2.1.2.2.1 HE_762.out, cell_below hS0xx.2.1.2.2.2 HE_762.out⟩, ⟨cell_below hS0xx.2.2.1 HE_762.out, cell_below hS0xx.2.2.2.1 HE_762.out, cell_below hS0xx.2.2.2.2 HE_762.out⟩⟩) (fun hS0xxx => ?_)
            clear hK K
            try simp only [Act.put, List.setIfInBounds_toArray, List.set_cons_zero, List.set_cons_succ]
            refine RegL.wpAnyL_ready (rs := [5]) (by kernel_rfl) (by simp) ?_
            refine RegL.AllReadyL.calm (o := ⟨some 66, Op.call { callee := Callee.value (Operand.func 20), args := #[Operand.tmp 64, Operand.tmp 65], argTypes := #[30, 37] }, _, _, _, _⟩) rfl (fun K hK => ?_) RegL.AllReadyL.nil
            go_simp
            refine (HDN.out _ HV_762.out).mono ?_
            rintro e w_7625 ⟨v, rfl, ⟨m', q', rfl, hm⟩, hb⟩
            have HE_7625 := Lib.hid hb
            clear hb
            have MQ_7625 := Lib.hid (fp_of (fun x hx => hx.2) hm)
            clear hm
            have Z_7625 := Lib.hid HE_7625.out.size
            have HV_7625 := Lib.hid (below_trans HV_762.out HE_7625.out)
            have Bh4_7625 := Lib.hid (blk_below Bh4_762.out HE_7625.out)
            have Bh3_7625 := Lib.hid (blk_below Bh3_762.out HE_7625.out)
            have MP_7625 := Lib.hid (MP_762.out.below HE_7625.out)
            (try dsimp only)
            refine hK.out _ _ (⟨⟨cell_below hS0xxx.1.1 HE_7625.out, cell_below hS0xxx.1.2.1 HE_7625.out, cell_below hS0xxx.1.2.2.1 HE_7625.out, cell_below hS0xxx.1.2.2.2 HE_7625.out⟩, ⟨cell_below hS0xxx.2.1.1 HE_7625.out, cell_below hS0xxx.2.1.2.1 HE_7625.out, cell_below hS0xxx.2.1.2.2.1 HE_7625.out, cell_below hS0xxx.2.1.2.2.2 HE_7625.out⟩, ⟨cell_below hS0xxx.2.2.1 HE_7625.out, cell_below hS0xxx.2.2.2.1 HE_7625.out, cell_below hS0xxx.2.2.2.2 HE_7625.out⟩⟩) (fun hS0xxxx => ?_)
            clear hK K
            try simp only [Act.put, List.setIfInBounds_toArray, List.set_cons_zero, List.set_cons_succ]
            refine RegL.wpAnyL_ready (rs := [8]) (by kernel_rfl) (by simp) ?_
            refine RegL.AllReadyL.late (o := ⟨none, Op.store 30 (Operand.tmp 15) (Operand.tmp 63), _, _, _, _⟩) rfl (by kernel_rfl) (fun K hK => ?_) RegL.AllReadyL.nil
            have hne : h3 ≠ h4 := by have z0 := Z_.out; have z_7 := Z_7.out; have y_7 := Y_7.out; have x_7 := Xh4_7.out; have z_76 := Z_76.out; have y_76 := Y_76.out; have x_76 := Xh3_76.out; have z_762 := Z_762.out; have z_7625 := Z_7625.out; omega
            have hs1 : wr.heap.size ≤ h3 := by have z0 := Z_.out; have z_7 := Z_7.out; have y_7 := Y_7.out; have x_7 := Xh4_7.out; have z_76 := Z_76.out; have y_76 := Y_76.out; have x_76 := Xh3_76.out; have z_762 := Z_762.out; have z_7625 := Z_7625.out; omega
            have hs2 : wr.heap.size ≤ h4 := by have z0 := Z_.out; have z_7 := Z_7.out; have y_7 := Y_7.out; have x_7 := Xh4_7.out; have z_76 := Z_76.out; have y_76 := Y_76.out; have x_76 := Xh3_76.out; have z_762 := Z_762.out; have z_7625 := Z_7625.out; omega
            have nph3 : ¬ Fp wr.heap.size w_76.heap.size w_762.heap.size h3 := by have z0 := Z_.out; have z_7 := Z_7.out; have y_7 := Y_7.out; have x_7 := Xh4_7.out; have z_76 := Z_76.out; have y_76 := Y_76.out; have x_76 := Xh3_76.out; have z_762 := Z_762.out; have z_7625 := Z_7625.out; unfold Fp; omega
            have nph4 : ¬ Fp wr.heap.size w_76.heap.size w_762.heap.size h4 := by have z0 := Z_.out; have z_7 := Z_7.out; have y_7 := Y_7.out; have x_7 := Xh4_7.out; have z_76 := Z_76.out; have y_76 := Y_76.out; have x_76 := Xh3_76.out; have z_762 := Z_762.out; have z_7625 := Z_7625.out; unfold Fp; omega
            have nqh3 : ¬ Fp wr.heap.size w_762.heap.size w_7625.heap.size h3 := by have z0 := Z_.out; have z_7 := Z_7.out; have y_7 := Y_7.out; have x_7 := Xh4_7.out; have z_76 := Z_76.out; have y_76 := Y_76.out; have x_76 := Xh3_76.out; have z_762 := Z_762.out; have z_7625 := Z_7625.out; unfold Fp; omega
            have nqh4 : ¬ Fp wr.heap.size w_762.heap.size w_7625.heap.size h4 := by have z0 := Z_.out; have z_7 := Z_7.out; have y_7 := Y_7.out; have x_7 := Xh4_7.out; have z_76 := Z_76.out; have y_76 := Y_76.out; have x_76 := Xh3_76.out; have z_762 := Z_762.out; have z_7625 := Z_7625.out; unfold Fp; omega
            have HP := Lib.hid (show P9 c d wr h3 h4 y b y' b' (doL L (o1 o)) _ from ⟨_, _, _, _, p3_of Bh3_7625.out Bh4_7625.out hne hs1 hs2 HV_7625.out y b n' p' y' b' m' q', (mapv4_far (mapv4_far MP_7625.out nph3 _ _ _ _) nph4 _ _ _ _).mono fun _ _ => trivial, (mapv4_far (mapv4_far MQ_7625.out nqh3 _ _ _ _) nqh4 _ _ _ _).mono fun _ _ => trivial⟩)
            clear nph3 nph4 nqh3 nqh4
            have hne2 : h4 ≠ h3 := fun h => hne h.symm
            obtain ⟨⟨e0, e1, e2, e3⟩, f0, f1, f2, f3⟩ := box4 Bh3_7625.out
            obtain ⟨⟨r0, r1, r2, r3⟩, s0, s1, s2, s3⟩ := box4 (put4_far Bh4_7625.out hne2 (.int .u64 y) (.int .i64 b) (.int .i64 n') (.pointer p'))
            go_simp
            refine hK.out _ _ ?_
            clear hK K
            try simp only [Act.put, List.setIfInBounds_toArray, List.set_cons_zero, List.set_cons_succ]
            refine RegL.wpAnyL_ready (rs := [9]) (by kernel_rfl) (by simp) ?_
            refine RegL.AllReadyL.late (o := ⟨none, Op.store 30 (Operand.tmp 16) (Operand.tmp 66), _, _, _, _⟩) rfl (by kernel_rfl) (fun K hK => ?_) RegL.AllReadyL.nil
            go_simp
            refine hK.out _ _ ?_
            clear hK K
            try simp only [Act.put, List.setIfInBounds_toArray, List.set_cons_zero, List.set_cons_succ]
            refine RegL.wpAnyL_done (by kernel_rfl) ?_ _
            refine NoPanic.normal ?_
            (go_wp2_with fail)
            go_meet
            exact ⟨_, _, rfl, rfl, HP⟩
        case rest =>
          obtain ⟨h3, h4, rfl, rfl, hh⟩ := hcut
          obtain ⟨np, pp, nq, qq, hP3, hMP, hMQ⟩ := hh.out
          have hbe := hP3.2.2.2.2.2
          have HB3 := Lib.hid hP3.2.2.2.1; have HB4 := Lib.hid hP3.2.2.2.2.1
          have HW9 := Lib.hid (below_trans HVW.out (below_trans HBR.out hbe))
          have hMM := HTW.out.2.2.2.1.below hbe
          have HB1 := Lib.hid (blk_below HTW.out.2.1 hbe)
          have HOC := Lib.hid (blk_below HOR.out hbe)
          have hsr := HTW.out.srt
          have hD : (doL L (o1 o)).length ≤ 1000 := Nat.le_trans (doL_length L (o1 o) hsr.1) (by omega)
          obtain ⟨kx, ki, hgk, hc1⟩ := got_key L o
          obtain ⟨mx, mi, gx, gi, hgm, hgg, hc2⟩ := got_oth L o oth
          have hk1 : o.f0.size ≤ 1000000 := Nat.le_trans HKO.out (by decide)
          have hk2 : oth.size ≤ 1000000 := Nat.le_trans HOT.out (by decide)
          have HG1 := Lib.hid (fun V (hV : Below wc.heap.size wc V) => (show Calls Tryd.prog 27 #[.agg #[.int .u64 y, .int .i64 b, .int .i64 np, .pointer pp], .string o.f0] V (Ret (fun v _ => v = .tuple #[.int .i64 kx, .bool ki]) V) from hgk ▸ mget_c c _ _ _ o.f0 hk1 V (hMP.below hV) (by omega)))
          have HG2 := Lib.hid (fun V (hV : Below wc.heap.size wc V) => (show Calls Tryd.prog 27 #[.agg #[.int .u64 y, .int .i64 b, .int .i64 n, .pointer p], .string oth] V (Ret (fun v _ => v = .tuple #[.int .i64 mx, .bool mi]) V) from hgm ▸ mget_c c _ _ _ oth hk2 V (hMM.below hV) (by omega)))
          have HG3 := Lib.hid (fun V (hV : Below wc.heap.size wc V) => (show Calls Tryd.prog 27 #[.agg #[.int .u64 y, .int .i64 b, .int .i64 np, .pointer pp], .string oth] V (Ret (fun v _ => v = .tuple #[.int .i64 gx, .bool gi]) V) from hgg ▸ mget_c c _ _ _ oth hk2 V (hMP.below hV) (by omega)))
          have HG4 := Lib.hid (fun V (hV : Below wc.heap.size wc V) => (show Calls Tryd.prog 27 #[.agg #[.int .u64 y', .int .i64 b', .int .i64 nq, .pointer qq], .string oth] V (Ret (fun v _ => v = .tuple #[.int .i64 gx, .bool gi]) V) from hgg ▸ mget_c d _ _ _ oth hk2 V (hMQ.below hV) (by omega)))
          have HLP := Lib.hid (fun V (hV : Below wc.heap.size wc V) => mlen_c c _ _ _ V (hMP.below hV))
          have HLQ := Lib.hid (fun V (hV : Below wc.heap.size wc V) => mlen_c d _ _ _ V (hMQ.below hV))
          have HKP := Lib.hid (fun V (hV : Below wc.heap.size wc V) => keys_c c _ _ _ V (hMP.below hV) hD (HT.out.below (below_trans HW9.out hV)))
          have HKQ := Lib.hid (fun V (hV : Below wc.heap.size wc V) => keys_c d _ _ _ V (hMQ.below hV) hD (HT.out.below (below_trans HW9.out hV)))
          have HWD := Lib.hid (fun (J J' : Nat → Prop) (u v : Value) V (hu : SlV J V u (ksV (doL L (o1 o)))) (hv : SlV J' V v (ksV (doL L (o1 o)))) => words_c J J' u v _ _ (by omega) V hu hv)
          simp only [decide_true] at HWD
          obtain ⟨⟨q0, q1, q2, q3⟩, -⟩ := box4 HB3.out
          obtain ⟨⟨x0, x1, x2⟩, -⟩ := box3 HOC.out
          clear hh hP3 hMP hMQ hbe hMM hsr hD hgk hgm hgg hk1 hk2 HDO HDN HTW HBR HOR HOV HVW HKO HOT
          generalize (doL L (o1 o)).length = nn at HLP HLQ
          generalize ksV (doL L (o1 o)) = kk at HKP HKQ HWD
          clear hLl hLn hLi
          generalize o.f2 = oc at *
          generalize o.f1 = ox at *
          generalize o.f0 = ok at *
          go_upto_region 11 with (first
            | (go_at_call 27; ((with_reducible refine (HG1.out _ (Below.refl _ _)).mono ?_); rintro e w5 ⟨v, rfl, rfl, hb5⟩; have H5 := Lib.hid hb5; obtain ⟨⟨x3, x4, x5⟩, -⟩ := box3 (blk_below HOC.out hb5); obtain ⟨⟨m0, m1, m2, m3⟩, -⟩ := box4 (blk_below HB1.out hb5); clear hb5))
            | fail)
          go_cut [94] from 74 (fun s94 wx => s94 = .bool false ∧ wx = w5)
          case first =>
            rcases hc1 with ⟨rfl, rfl, rfl⟩ | ⟨rfl, rfl, rfl⟩
            · go_wp2_with fail
              go_meet
              exact ⟨rfl, rfl⟩
            · go_wp2_with fail
              go_meet
              exact ⟨rfl, rfl⟩
          case rest =>
            obtain ⟨rfl, rfl⟩ := hcut
            go_upto_region 15 with (first
              | (go_at_call 27; ((with_reducible refine (HG2.out _ H5.out).mono ?_); rintro e w6 ⟨v, rfl, rfl, hb6⟩; have H6 := Lib.hid (below_trans H5.out hb6); obtain ⟨⟨q4, q5, q6, q7⟩, -⟩ := box4 (blk_below HB3.out H6.out); clear hb6))
              | (go_at_call 27; ((with_reducible refine (HG3.out _ H6.out).mono ?_); rintro e w7 ⟨v, rfl, rfl, hb7⟩; have H7 := Lib.hid (below_trans H6.out hb7); obtain ⟨⟨x6, x7, x8⟩, -⟩ := box3 (blk_below HOC.out H7.out); obtain ⟨⟨r0, r1, r2, r3⟩, -⟩ := box4 (blk_below HB4.out H7.out); clear hb7))
              | fail)
            go_cut [120] from 107 (fun s120 wx => s120 = .bool false ∧ wx = w7)
            case first =>
              rcases hc2 with rfl | ⟨hne, rfl, rfl⟩
              · go_wp2_with fail
                go_meet
                exact ⟨rfl, rfl⟩
              · go_wp2_with fail
                go_meet
                exact ⟨rfl, rfl⟩
            case rest =>
              obtain ⟨rfl, rfl⟩ := hcut
              clear hc1 hc2
              go_upto_region 18 with (first
                | (go_at_call 27; ((with_reducible refine (HG4.out _ H7.out).mono ?_); rintro e w8 ⟨v, rfl, rfl, hb8⟩; have H8 := Lib.hid (below_trans H7.out hb8); obtain ⟨⟨t0, t1, t2, t3⟩, -⟩ := box4 (blk_below HB3.out H8.out); obtain ⟨⟨t4, t5, t6, t7⟩, -⟩ := box4 (blk_below HB4.out H8.out); clear hb8))
                | fail)
              go_region_held3 (fun w' => (w'.cell? ⟨h3, 0, none⟩ = some (.int .u64 y) ∧ w'.cell? ⟨h3, 1, none⟩ = some (.int .i64 b) ∧ w'.cell? ⟨h3, 2, none⟩ = some (.int .i64 np) ∧ w'.cell? ⟨h3, 3, none⟩ = some (.pointer pp)) ∧ w'.cell? ⟨h4, 0, none⟩ = some (.int .u64 y') ∧ w'.cell? ⟨h4, 1, none⟩ = some (.int .i64 b') ∧ w'.cell? ⟨h4, 2, none⟩ = some (.int .i64 nq) ∧ w'.cell? ⟨h4, 3, none⟩ = some (.pointer qq))
                ((refine ⟨⟨?_, ?_, ?_, ?_⟩, ?_, ?_, ?_, ?_⟩ <;> first | (with_reducible assumption) | (with_reducible exact cell_below t0 (by assumption)) | (with_reducible exact cell_below t1 (by assumption)) | (with_reducible exact cell_below t2 (by assumption)) | (with_reducible exact cell_below t3 (by assumption)) | (with_reducible exact cell_below t4 (by assumption)) | (with_reducible exact cell_below t5 (by assumption)) | (with_reducible exact cell_below t6 (by assumption)) | (with_reducible exact cell_below t7 (by assumption)) | (go_keep; done)))
                (first
                  | (go_at_call 29; (with_reducible refine (HLP.out _ H8.out.drew).mono ?_); rintro e u1 ⟨v, rfl, rfl, hc1⟩; have hb1 := below_trans (w1 := World.drew _) (Below.refl _ _).drew hc1)
                  | (go_at_call 29; (with_reducible refine (HLQ.out _ (below_trans H8.out hb1)).mono ?_); rintro e u2 ⟨v, rfl, rfl, hc2⟩; have hb2 := below_trans hb1 hc2)
                  | (go_at_call 26; (with_reducible refine (HKP.out _ (below_trans H8.out hb2)).mono ?_); rintro e u3 ⟨v, rfl, hk3, hc3⟩; have hb3 := below_trans hb2 hc3)
                  | (go_at_call 26; (with_reducible refine (HKQ.out _ (below_trans H8.out hb3)).mono ?_); rintro e u4 ⟨v2, rfl, hk4, hc4⟩; have hb4 := below_trans hb3 hc4; have hk5 := SlV.below hk3 hc4)
                  | (go_at_call 30; (with_reducible refine (HWD.out _ _ _ _ _ hk5 hk4).mono ?_); rintro e u5 ⟨v3, rfl, rfl, hc5⟩; have hb5 := below_trans hb4 hc5)
                  | fail)
              have HEND := Lib.hid (below_trans HW9.out (below_trans H8.out hb5))
              go_wp2_with fail
              go_returns
              exact ⟨rfl, HEND.out⟩
end Go.Proofs.YtnegblckbomgdaaDoor.Ht
