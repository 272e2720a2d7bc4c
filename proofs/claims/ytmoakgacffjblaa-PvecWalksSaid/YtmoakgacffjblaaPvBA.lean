/- What was pushed is popped: the law's walk. -/
import Derived.Test.YtmoakgacffjblaaPvTwo
set_option linter.unusedVariables false
set_option linter.unusedSimpArgs false
namespace Go.Proofs.Ytmoakgacffjblaa.Pv
open Go Go.RowKit Go.Proofs.Ytmoakgacffjblaa.Mem Go.Proofs.YtmoakgacffjblaaW.PrintWords

def Tru (W : World) (e : Ending) (W' : World) : Prop := e = .returned (.bool true) ∧ Below W.heap.size W W'

theorem ret_tru {w w0 : World} {e : Ending} {w' : World} (h : Ret (fun u _ => u = .bool true) w e w') (hb : Below w0.heap.size w0 w) : Tru w0 e w' := by
  obtain ⟨v, rfl, rfl, hb1⟩ := h
  exact ⟨rfl, below_trans hb hb1⟩

set_option maxHeartbeats 4000000 in
theorem back_out (n m : Int) (W : World) (h : n < 0 ∨ 2500 < n ∨ m < 0 ∨ 300 < m) :
    Calls Try.prog 4 #[.int .i64 n, .int .i64 m] W (Tru W) := by
  by_cases h1 : n < 0
  · go_enter Try.func4, Try.ntmps4
    go_wp2_with (go_at_call 8; ((with_reducible refine (live_c _).mono ?_); rintro e w1 ⟨v, rfl, rfl, hb1⟩))
    go_returns
    exact ⟨rfl, below_trans (by assumption) hb1⟩
  by_cases h2 : 2500 < n
  · go_enter Try.func4, Try.ntmps4
    go_wp2_with (go_at_call 8; ((with_reducible refine (live_c _).mono ?_); rintro e w1 ⟨v, rfl, rfl, hb1⟩))
    go_returns
    exact ⟨rfl, below_trans (by assumption) hb1⟩
  by_cases h3 : m < 0
  · go_enter Try.func4, Try.ntmps4
    go_wp2_with (go_at_call 8; ((with_reducible refine (live_c _).mono ?_); rintro e w1 ⟨v, rfl, rfl, hb1⟩))
    go_returns
    exact ⟨rfl, below_trans (by assumption) hb1⟩
  have h4 : 300 < m := by omega
  go_enter Try.func4, Try.ntmps4
  go_wp2_with (go_at_call 8; ((with_reducible refine (live_c _).mono ?_); rintro e w1 ⟨v, rfl, rfl, hb1⟩))
  go_returns
  exact ⟨rfl, below_trans (by assumption) hb1⟩

/-- what holds at each round's head of both loops: the elder vector, and the one that grows and shrinks -/
def BackI (w : World) (g : Nat) (v5 : Value) (N T j : Nat) (wr : World) : Prop :=
  ∃ (n L : Int) (p A : Option Addr) (m c : Nat), wr.heap[g]? = some (.cells v5.cells VT (0, 0)) ∧ wr.heap[g + 1]? = some (.cells #[.int .i64 n, .int .i64 L, .pointer p, .slice A m c] VT (0, 0)) ∧
    VRep (fun b => b < g ∨ g + 1 < b) wr v5 (runL 0 N) ∧ VRep (fun b => b < g ∨ g + 1 < b) wr (vec n L p (.slice A m c)) (runL 0 N ++ runL 1000 j) ∧ Below w.heap.size w wr
def BackL (w : World) (g : Nat) (v5 : Value) (N T k : Nat) (v35 : Value) (wr : World) : Prop := ∃ j : Nat, v35 = .int .i64 (j : Int) ∧ j + k = T ∧ BackI w g v5 N T j wr
def BackM (w : World) (g : Nat) (v5 : Value) (N T k : Nat) (v45 : Value) (wr : World) : Prop := ∃ j : Nat, v45 = .int .i64 (j : Int) ∧ j + k = T ∧ BackI w g v5 N T k wr

theorem levR (n L : Int) (p : Option Addr) (t : Value) (w : World) : Calls Try.prog 17 #[vec n L p t] w (Ret (fun u _ => u = .int .i64 L) w) :=
  (levels_c n L p t w).mono fun e w' ⟨he, hw⟩ => ⟨_, he, rfl, by rw [hw]; exact (Below.refl _ _).alloc (Nat.le_refl _) _⟩

set_option maxHeartbeats 4000000 in
theorem back_in (N T : Nat) (W : World) (hN : N ≤ 2500) (hT : T ≤ 300) :
    Calls Try.prog 4 #[.int .i64 (N : Int), .int .i64 (T : Int)] W (Tru W) := by
  have hNN : (N : Int) ≤ 2500 := by omega
  have hTT : (T : Int) ≤ 300 := by omega
  have HN := Lib.hid hN; clear hN
  have HT := Lib.hid hT; clear hT
  go_enter Try.func4, Try.ntmps4
  go_wp2_with (first
    | (go_at_call 8; ((with_reducible refine (live_c _).mono ?_); rintro e w1 ⟨v, rfl, rfl, hb1⟩))
    | (go_at_call 10; ((with_reducible refine (run_c _ _ ?_ _).mono ?_); (omega); rintro e w2 ⟨v, rfl, hO2, hb2⟩; obtain ⟨A2, n2, c2, rfl⟩ := hO2.slv.form; have HO2 := Lib.hid hO2; clear hO2; have hB2 : Below W.heap.size W w2 := below_trans hb1 hb2))
    | (go_at_call 9; ((with_reducible refine (of_c _ _ _ _ HO2.out.slv ?_).mono ?_); (have := HN.out; rw [runL_length]; simp; omega); rintro e w3 ⟨v, rfl, hV3, hb3⟩; obtain ⟨n3, L3, p3, A3, m3, c3, rfl⟩ := vrep_form hV3; have HV3 := Lib.hid (vrep_bound hV3); clear hV3; have hB3 : Below W.heap.size W w3 := below_trans hB2 hb3; clear hb1 hb2 hb3 hB2)))
  go_loopg [35] T (fun k v35 wr => Aside (BackL W w3.heap.size (vec n3 L3 p3 (.slice A3 m3 c3)) N T k v35 wr))
  case atStart =>
    show BackL _ _ _ _ _ _ _ _
    have hV : VRep (fun b => b < w3.heap.size ∨ w3.heap.size + 1 < b) ((w3.alloc (.cells #[.int .i64 n3, .int .i64 L3, .pointer p3, .slice A3 m3 c3] VT)).alloc (.cells #[.int .i64 n3, .int .i64 L3, .pointer p3, .slice A3 m3 c3] VT)) (vec n3 L3 p3 (.slice A3 m3 c3)) (runL 0 N) := by
      have h0 := HV3.out.mono (K' := fun b => b < w3.heap.size ∨ w3.heap.size + 1 < b) fun b h => Or.inl h.2
      simp only [Int.toNat_natCast] at h0
      exact h0.below (by go_grown)
    exact ⟨0, rfl, by omega, n3, L3, p3, A3, m3, c3, blk_alloc (blk_new w3 _) _, heap_k1 w3 _ _, hV, by simpa [runL] using hV, (hB3.alloc hB3.size _).alloc (by have := hB3.size; simp; omega) _⟩
  case round =>
    obtain ⟨j, rfl, hj, n6, L6, p6, A6, m6, c6, B5, B6, hV5, hV6, hB⟩ := hrel.out
    clear hrel
    obtain ⟨⟨k0, k1, k2, k3⟩, f0, f1, f2, f3⟩ := box4 B6
    have HB5 := Lib.hid B5; clear B5
    have HB6 := Lib.hid B6; clear B6
    have HV5 := Lib.hid hV5; clear hV5
    have HV6 := Lib.hid hV6; clear hV6
    have hz : w3.heap.size + 1 < wr.heap.size := blk_lt HB6.out
    have hNK : Hid (¬ (fun b => b < w3.heap.size ∨ w3.heap.size + 1 < b) (w3.heap.size + 1)) := Lib.hid (fun h => by have h' : w3.heap.size + 1 < w3.heap.size ∨ w3.heap.size + 1 < w3.heap.size + 1 := h; omega)
    cases gk with
    | succ k =>
      have hjT : (j : Int) < (T : Int) := by omega
      have hw1 : wrap64 (1000 + (j : Int)) = 1000 + (j : Int) := wrap_mid _ (by omega) (by have := HT.out; omega)
      have HW1 := Lib.hid hw1; clear hw1
      have hpu : Calls Try.prog 14 #[vec n6 L6 p6 (.slice A6 m6 c6), .slice (some ⟨wr.heap.size, 0, none⟩) 1 1] (wr.alloc (.cells #[.int .i64 (1000 + (j : Int))] 3)) (Ret (fun v w' => VRep (New (fun b => b < w3.heap.size ∨ w3.heap.size + 1 < b) (wr.alloc (.cells #[.int .i64 (1000 + (j : Int))] 3))) w' v (runL 0 N ++ runL 1000 j ++ [1000 + (j : Int)])) (wr.alloc (.cells #[.int .i64 (1000 + (j : Int))] 3))) := by
        refine push_c _ (fun _ => True) _ _ _ [1000 + (j : Int)] _ (HV6.out.below ((Below.refl _ _).alloc (Nat.le_refl _) _)) ?_ (by have := HN.out; have := HT.out; simp; omega)
        exact SlV.blk (xs := ints [1000 + (j : Int)]) (c := 1) (blk_new wr _) (fun j' u hu => by rcases j' with _ | j' <;> first | (simp at hu; done) | simpa using hu) (by simp) (by simp [maxLen]) (ints_one _) trivial
      have HPU := Lib.hid hpu; clear hpu
      go_wp2_with (go_at_call 14; ((with_reducible refine HPU.out.mono ?_); rintro e w4 ⟨v, rfl, hV4, hb4⟩; obtain ⟨n4, L4, p4, A4, m4, c4, rfl⟩ := vrep_form hV4; have hV4' := hV4.mono (K' := fun b => b < w3.heap.size ∨ w3.heap.size + 1 < b) fun b h => h.elim id (fun h => Or.inr (by rw [World.size_alloc] at h; omega)); have HV4 := Lib.hid hV4'; clear hV4 hV4'; have hb4' : Below wr.heap.size wr w4 := below_trans ((Below.refl _ _).alloc (Nat.le_refl _) _) hb4; have HB5' := Lib.hid (blk_below HB5.out hb4'); have HB6' := Lib.hid (blk_below HB6.out hb4'); obtain ⟨⟨k0, k1, k2, k3⟩, f0, f1, f2, f3⟩ := box4 HB6'.out))
      go_roundg k
      case measure => omega
      case rel =>
        show BackL _ _ _ _ _ _ _ _
        have h35 : w3.heap.size ≠ w3.heap.size + 1 := by omega
        have hN5 : ¬ (fun b => b < w3.heap.size ∨ w3.heap.size + 1 < b) (w3.heap.size + 1) := hNK.out
        have hW : W.heap.size ≤ w3.heap.size + 1 := by have := hB3.size; omega
        refine ⟨j + 1, by first | rfl | (push_cast; rfl), by omega, n4, L4, p4, A4, m4, c4, blk_far (blk_far (blk_far (blk_far HB5'.out h35 _) h35 _) h35 _) h35 _, put4 HB6'.out, vrep_far (vrep_far (vrep_far (vrep_far (HV5.out.below hb4') _ _ _ hN5) _ _ _ hN5) _ _ _ hN5) _ _ _ hN5, ?_, ?_⟩
        · rw [runL_succ, HW1.out, ← List.append_assoc]
          exact vrep_far (vrep_far (vrep_far (vrep_far HV4.out _ _ _ hN5) _ _ _ hN5) _ _ _ hN5) _ _ _ hN5
        · have := below_trans hB hb4'
          exact (((this.setCell hW _).setCell hW _).setCell hW _).setCell hW _
    | zero =>
      obtain rfl : T = j := by omega
      clear hj f0 f1 f2 f3
      go_wp2_with fail
      clear k0 k1 k2 k3
      go_loopg [45] T (fun k v45 wr => Aside (BackM W w3.heap.size (vec n3 L3 p3 (.slice A3 m3 c3)) N T k v45 wr))
      case atStart =>
        show BackM _ _ _ _ _ _ _ _
        exact ⟨0, rfl, by omega, n6, L6, p6, A6, m6, c6, HB5.out, HB6.out, HV5.out, HV6.out, hB⟩
      case round =>
        clear HB5 HB6 HV5 HV6 hB hz
        obtain ⟨j, rfl, hj, n7, L7, p7, A7, m7, c7, B5, B6, hV5, hV6, hB⟩ := hrel.out
        clear hrel
        obtain ⟨⟨k0, k1, k2, k3⟩, f0, f1, f2, f3⟩ := box4 B6
        have HB5 := Lib.hid B5; clear B5
        have HB6 := Lib.hid B6; clear B6
        have HV5 := Lib.hid hV5; clear hV5
        have HV6 := Lib.hid hV6; clear hV6
        have hz : w3.heap.size + 1 < wr.heap.size := blk_lt HB6.out
        cases gk with
        | succ k =>
          have hjT : (j : Int) < (T : Int) := by omega
          have hpo := pop_c' _ _ (runL 0 N ++ runL 1000 k) (wrap64 (1000 + (k : Int))) wr (by rw [List.append_assoc, ← runL_succ]; exact HV6.out)
          have hw1 : wrap64 (1000 + (k : Int)) = 1000 + (T : Int) - 1 - (j : Int) := by rw [wrap_mid _ (by omega) (by have := HT.out; omega)]; omega
          rw [hw1] at hpo
          clear hw1
          have HPO := Lib.hid hpo; clear hpo
          go_wp2_with (go_at_call 15; ((with_reducible refine HPO.out.mono ?_); rintro e w4 ⟨v, rfl, ⟨u, rfl, hV4⟩, hb4⟩; obtain ⟨n4, L4, p4, A4, m4, c4, rfl⟩ := vrep_form hV4; have HV4 := Lib.hid (hV4.mono (K' := fun b => b < w3.heap.size ∨ w3.heap.size + 1 < b) fun b h => h.elim id (fun h => Or.inr (by omega))); clear hV4; have HB5' := Lib.hid (blk_below HB5.out hb4); have HB6' := Lib.hid (blk_below HB6.out hb4); obtain ⟨⟨k0, k1, k2, k3⟩, f0, f1, f2, f3⟩ := box4 HB6'.out))
          go_roundg k
          case measure => omega
          case rel =>
            show BackM _ _ _ _ _ _ _ _
            have h35 : w3.heap.size ≠ w3.heap.size + 1 := by omega
            have hN5 : ¬ (fun b => b < w3.heap.size ∨ w3.heap.size + 1 < b) (w3.heap.size + 1) := hNK.out
            have hW : W.heap.size ≤ w3.heap.size + 1 := by have := hB3.size; omega
            refine ⟨j + 1, by first | rfl | (push_cast; rfl), by omega, n4, L4, p4, A4, m4, c4, blk_far (blk_far (blk_far (blk_far HB5'.out h35 _) h35 _) h35 _) h35 _, put4 HB6'.out, vrep_far (vrep_far (vrep_far (vrep_far (HV5.out.below hb4) _ _ _ hN5) _ _ _ hN5) _ _ _ hN5) _ _ _ hN5, ?_, ?_⟩
            · exact vrep_far (vrep_far (vrep_far (vrep_far HV4.out _ _ _ hN5) _ _ _ hN5) _ _ _ hN5) _ _ _ hN5
            · have := below_trans hB hb4
              exact (((this.setCell hW _).setCell hW _).setCell hW _).setCell hW _
        | zero =>
          obtain rfl : T = j := by omega
          clear hj f0 f1 f2 f3 hNK hB3 HV3 HO2
          have h0 : runL 0 N ++ runL 1000 0 = runL 0 N := by simp [runL]
          have hV6 := HV6.out
          rw [h0] at hV6
          obtain rfl : L7 = L3 := by
            obtain ⟨_, L, _, _, e1, h1⟩ := hV6.lev
            obtain ⟨_, L', _, _, e2, h2⟩ := HV5.out.lev
            simp only [vec, Value.agg.injEq, Array.mk.injEq, List.cons.injEq, Value.int.injEq, true_and] at e1 e2
            obtain ⟨_, rfl, _⟩ := e1
            obtain ⟨_, rfl, _⟩ := e2
            exact h1.one h2
          clear HV6
          have HV6 := Lib.hid hV6; clear hV6
          obtain ⟨⟨q0, q1, q2, q3⟩, -, -, -, -⟩ := box4 HB5.out
          have HLen := Lib.hid (fun V (hw : Below wr.heap.size wr V) => (show Calls Try.prog 16 #[vec n7 L7 p7 (.slice A7 m7 c7)] V (Ret (fun u _ => u = .int .i64 (N : Int)) V) by have := len_r _ _ _ V (HV6.out.below hw); rwa [runL_length] at this))
          have HList6 := Lib.hid (fun V (hw : Below wr.heap.size wr V) => list_c _ _ _ V (HV6.out.below hw))
          have HList5 := Lib.hid (fun V (hw : Below wr.heap.size wr V) => list_c _ _ _ V (HV5.out.below hw))
          have HNL : Hid ((runL 0 N).length ≤ 1000000) := Lib.hid (by have := HN.out; rw [runL_length]; omega)
          go_wp2_with fail
          go_region_held3 (fun w' => w'.cell? ⟨w3.heap.size, 0, none⟩ = some (.int .i64 n3) ∧ w'.cell? ⟨w3.heap.size, 1, none⟩ = some (.int .i64 L7) ∧ w'.cell? ⟨w3.heap.size, 2, none⟩ = some (.pointer p3) ∧ w'.cell? ⟨w3.heap.size, 3, none⟩ = some (.slice A3 m3 c3) ∧ w'.cell? ⟨w3.heap.size + 1, 0, none⟩ = some (.int .i64 n7) ∧ w'.cell? ⟨w3.heap.size + 1, 1, none⟩ = some (.int .i64 L7) ∧ w'.cell? ⟨w3.heap.size + 1, 2, none⟩ = some (.pointer p7) ∧ w'.cell? ⟨w3.heap.size + 1, 3, none⟩ = some (.slice A7 m7 c7))
            ((refine ⟨?_, ?_, ?_, ?_, ?_, ?_, ?_, ?_⟩ <;> first | (with_reducible exact cell_below q0 (by assumption)) | (with_reducible exact cell_below q1 (by assumption)) | (with_reducible exact cell_below q2 (by assumption)) | (with_reducible exact cell_below q3 (by assumption)) | (with_reducible exact cell_below k0 (by assumption)) | (with_reducible exact cell_below k1 (by assumption)) | (with_reducible exact cell_below k2 (by assumption)) | (with_reducible exact cell_below k3 (by assumption)) | (go_keep; done)))
            (first
              | (go_at_call 16; (with_reducible refine (HLen.out _ ?_).mono ?_); (first | (with_reducible assumption) | exact (Below.refl _ _).drew); rintro e wa ⟨v, rfl, rfl, hba⟩; have hA : Below wr.heap.size wr wa := below_trans (by first | (with_reducible assumption) | exact (Below.refl _ _).drew) hba)
              | (go_at_call 17; (with_reducible refine (levR _ _ _ _ _).mono ?_); rintro e wb ⟨v, rfl, rfl, hbb⟩; have hBb : Below wr.heap.size wr wb := below_trans (by first | (with_reducible assumption) | exact (Below.refl _ _).drew) hbb)
              | (go_at_call 12; (with_reducible refine (HList6.out _ ?_).mono ?_); (first | (with_reducible assumption) | exact (Below.refl _ _).drew); rintro e wc ⟨v, rfl, hSc, hbc⟩; obtain ⟨Ac, nc, cc, rfl⟩ := hSc.form; have hC : Below wr.heap.size wr wc := below_trans (by first | (with_reducible assumption) | exact (Below.refl _ _).drew) hbc)
              | (go_at_call 12; (with_reducible refine (HList5.out _ ?_).mono ?_); (first | (with_reducible assumption) | exact (Below.refl _ _).drew); rintro e wd ⟨v, rfl, hSd, hbd⟩; obtain ⟨Ad, nd, cd, rfl⟩ := hSd.form; have hD : Below wr.heap.size wr wd := below_trans (by first | (with_reducible assumption) | exact (Below.refl _ _).drew) hbd)
              | (go_at_call 13; (first | (with_reducible refine (rsame_c _ _ _ _ _ HNL.out _ (hSc.below hbd) hSd).mono ?_) | (with_reducible refine (rsame_c _ _ _ _ _ HNL.out _ hSc (hSd.below hbc)).mono ?_)); rintro e we ⟨v, rfl, rfl, hbe⟩; have hE : Below wr.heap.size wr we := below_trans (by first | (with_reducible assumption) | exact (Below.refl _ _).drew) hbe)
              | fail)
          all_goals go_wp2_with fail
          all_goals go_returns
          all_goals exact ⟨rfl, below_trans hB (by assumption)⟩

theorem back_walk (a0 a1 : Int) (W : World) (_ : (Lit.int .i64 a0).wf = true) (_ : (Lit.int .i64 a1).wf = true) :
    Calls Try.prog 4 #[.int .i64 a0, .int .i64 a1] W fun e W' => e = .returned (.bool true) ∧ Below W.heap.size W W' := by
  by_cases h : a0 < 0 ∨ 2500 < a0 ∨ a1 < 0 ∨ 300 < a1
  · exact back_out a0 a1 W h
  · obtain ⟨N, rfl⟩ : ∃ N : Nat, a0 = (N : Int) := ⟨a0.toNat, by omega⟩
    obtain ⟨T, rfl⟩ : ∃ T : Nat, a1 = (T : Int) := ⟨a1.toNat, by omega⟩
    exact back_in N T W (by omega) (by omega)
end Go.Proofs.Ytmoakgacffjblaa.Pv
