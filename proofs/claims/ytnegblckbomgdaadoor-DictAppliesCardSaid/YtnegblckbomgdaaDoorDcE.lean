/- The chapter's examples hold: the walk. -/
import Derived.Test.YtnegblckbomgdaaDoorDcD
set_option linter.unusedVariables false
set_option linter.unusedSimpArgs false
namespace Go.Proofs.YtnegblckbomgdaaDoor.Ht
open Go Go.RowKit Go.Shelf Go.Proofs.YtnegblckbomgdaaDoor.Mem Go.Proofs.YtnegblckbomgdaaDoor.PA Go.Proofs.YtnegblckbomgdaaDoorW.PrintWords Go.Proofs.YtnegblckbomgdaaDoor.U64 Go.Proofs.YtnegblckbomgdaaDoor

abbrev kC : ByteArray := ⟨#[99]⟩
theorem klt_ac : klt kA kC = true := by unfold klt; rw [ByteArray.toList_eq, ByteArray.toList_eq]; rfl
theorem klt_bc : klt kB kC = true := by unfold klt; rw [ByteArray.toList_eq, ByteArray.toList_eq]; rfl
theorem ins_a : ins ([] : List Pr) kA 1 = [(kA, 1)] := rfl
theorem ins_ac : ins ([(kA, 1)] : List Pr) kC 2 = [(kA, 1), (kC, 2)] := by
  unfold ins lo hi
  simp [klt_ac, klt_asymm klt_ac]
theorem rnk_ac_a : rnk ([(kA, 1), (kC, 2)] : List Pr) kA = 0 := by
  unfold rnk lo
  simp [klt_self, klt_asymm klt_ac]
theorem rnk_ac_b : rnk ([(kA, 1), (kC, 2)] : List Pr) kB = 1 := by
  unfold rnk lo
  simp [klt_ab, klt_asymm klt_bc]
theorem lkp_ac_a : lkp ([(kA, 1), (kC, 2)] : List Pr) kA = some 1 := by simp [lkp]
theorem lkp_ac_b : lkp ([(kA, 1), (kC, 2)] : List Pr) kB = none := by
  have h1 : ¬ kA = kB := by intro h; have := congrArg (fun b => b.data.toList) h; simp at this
  have h2 : ¬ kC = kB := by intro h; have := congrArg (fun b => b.data.toList) h; simp at this
  simp [lkp, h1, h2]
theorem plc_ac : plc ([(kA, 1), (kC, 2)] : List Pr) 1 = (kC, 2, true) := rfl
theorem next_ac (k : ByteArray) (hk : k = kA ∨ k = kB) (K : Nat → Prop) (p : Option Addr) (V : World) (hT : Tab V) (h : MapV (0#64, 8) K V (mz 8 2 p) (ins (ins [] kA 1) kC 2)) :
    Calls Tryd.prog 42 #[mz 8 2 p, .string k] V (Ret (fun v _ => v = .tuple #[.string kC, .int .i64 2, .bool true]) V) := by
  rw [ins_a, ins_ac] at h
  have := next_c (0#64, 8) K _ _ k V h (by decide) hT
  have e : nxt [(kA, 1), (kC, 2)] k = 1 := by
    unfold nxt
    rcases hk with rfl | rfl
    · rw [lkp_ac_a, rnk_ac_a]; rfl
    · rw [lkp_ac_b, rnk_ac_b]; rfl
  unfold plcV at this
  rw [e, plc_ac] at this
  exact this
theorem rank_ac (K : Nat → Prop) (p : Option Addr) (V : World) (hT : Tab V) (h : MapV (0#64, 8) K V (mz 8 2 p) (ins (ins [] kA 1) kC 2)) :
    Calls Tryd.prog 47 #[mz 8 2 p, .string kB] V (Ret (fun v _ => v = .int .i64 1) V) := by
  rw [ins_a, ins_ac] at h
  have := rank_q (0#64, 8) K _ _ kB V h (by decide) hT
  rw [rnk_ac_b] at this
  exact this

set_option maxRecDepth 100000 in
set_option maxHeartbeats 4000000 in
/-- THE CHAPTER's EXAMPLES. -/
theorem livep_c (w : World) (hT : Tab w) : Calls Tryd.prog 36 #[] w (Ret (fun v _ => v = .bool true) w) := by
  have HT := Lib.hid hT
  have HN := Lib.hid (fun V => new_lit 8 V)
  have HS1 := Lib.hid (fun V => set_lit 8 0 1 [] kA 1 (by decide) rfl (by rw [ins_a]; rfl) (by decide) (fun _ => False) none V (map_nil 8 _ V))
  have HS2 := Lib.hid (fun K p V (h : MapV (0#64, 8) K V (mz 8 1 p) (ins [] kA 1)) => set_lit 8 1 2 (ins [] kA 1) kC 2 (by decide) (by rw [ins_a]; rfl) (by rw [ins_a, ins_ac]; rfl) (by rw [ins_a]; decide) K p V h)
  have HXA := Lib.hid (fun K p V hT h => next_ac kA (Or.inl rfl) K p V hT h)
  have HXB := Lib.hid (fun K p V hT h => next_ac kB (Or.inr rfl) K p V hT h)
  have HR := Lib.hid (fun K p V hT h => rank_ac K p V hT h)
  clear hT
  go_enter Tryd.func36, Tryd.ntmps36
  go_upto_region 2 with (first
    | (go_at_call 19; ((with_reducible refine (HN.out _).mono ?_); rintro e w1 ⟨v, rfl, rfl, hb1⟩))
    | (go_at_call 25; ((with_reducible refine (HS1.out _).mono ?_); rintro e w2 ⟨v, rfl, ⟨p1, rfl, hm1⟩, hb2⟩))
    | (go_at_call 25; ((with_reducible refine (HS2.out _ _ _ hm1).mono ?_); rintro e w3 ⟨v, rfl, ⟨p2, rfl, hm2⟩, hb3⟩))
    | fail)
  have HB := Lib.hid (blk_new w3 (.cells #[.int .u64 0, .int .i64 8, .int .i64 2, .pointer p2] MT))
  have HM := Lib.hid (hm2.below ((Below.refl w3.heap.size w3).alloc (Nat.le_refl _) (.cells #[.int .u64 0, .int .i64 8, .int .i64 2, .pointer p2] MT)))
  have hb := below_trans (below_trans hb1 hb2) hb3
  have HB0 := Lib.hid (hb.alloc hb.size (.cells #[.int .u64 0, .int .i64 8, .int .i64 2, .pointer p2] MT))
  obtain ⟨⟨b0, b1, b2, b3⟩, -⟩ := box4 HB.out
  clear hm1 hm2 hb1 hb2 hb3 hb HS1 HS2 HN
  generalize w3.alloc (.cells #[.int .u64 0, .int .i64 8, .int .i64 2, .pointer p2] MT) = W at *
  generalize w3.heap.size = g at *
  go_wp2_with (first
    | (go_at_call 42; ((with_reducible refine (HXA.out _ _ _ (HT.out.below HB0.out) HM.out).mono ?_); rintro e w5 ⟨v, rfl, rfl, hb5⟩; have H5 := Lib.hid hb5; obtain ⟨⟨c0, c1, c2, c3⟩, -⟩ := box4 (blk_below HB.out hb5); clear hb5))
    | (go_at_call 42; ((with_reducible refine (HXB.out _ _ _ (HT.out.below (below_trans HB0.out H5.out)) (HM.out.below H5.out)).mono ?_); rintro e w6 ⟨v, rfl, rfl, hb6⟩; have H6 := Lib.hid (below_trans H5.out hb6); obtain ⟨⟨d0, d1, d2, d3⟩, -⟩ := box4 (blk_below HB.out H6.out); clear hb6))
    | (go_at_call 47; ((with_reducible refine (HR.out _ _ _ (HT.out.below (below_trans HB0.out H6.out)) (HM.out.below H6.out)).mono ?_); rintro e w7 ⟨v, rfl, rfl, hb7⟩; have H7 := Lib.hid (below_trans H6.out hb7); clear hb7))
    | fail)
  go_returns
  exact ⟨_, rfl, rfl, below_trans HB0.out H7.out⟩
end Go.Proofs.YtnegblckbomgdaaDoor.Ht
