/- Two vectors of one length have the same levels, and few: the law's walk. -/
import Derived.Test.YtmoakgacffjblaaPvBA
import Derived.Test.YtmoakgacffjblaaPvBB
set_option linter.unusedVariables false
set_option linter.unusedSimpArgs false
namespace Go.Proofs.Ytmoakgacffjblaa.Pv
open Go Go.RowKit Go.Proofs.Ytmoakgacffjblaa.Mem Go.Proofs.YtmoakgacffjblaaW.PrintWords Go.Proofs.Ytmoakgacffjblaa.PPvecDoes

set_option maxHeartbeats 4000000 in
theorem flat_out (v : Value) (os : List S43) (W : World)
    (hf : ∀ V, Below W.heap.size W V → Calls Try.prog 18 #[v] V (Ret (fun u _ => u = .bool false) V)) :
    Calls Try.prog 7 #[v] W (Tru W) := by
  have HF := Lib.hid hf; clear hf
  go_enter Try.func7, Try.ntmps7
  go_wp2_with (first
    | (go_at_call 18; ((with_reducible refine (HF.out _ (by go_grown)).mono ?_); rintro e w1 ⟨v, rfl, rfl, hb1⟩; have hB1 : Below W.heap.size W w1 := below_trans (by go_grown) hb1; clear hb1))
    | (go_at_call 8; ((with_reducible refine (live_c _).mono ?_); rintro e w2 ⟨v, rfl, rfl, hb2⟩; have hB2 : Below W.heap.size W w2 := below_trans (by go_grown) hb2; clear hb2)))
  go_returns
  exact ⟨rfl, by go_grown⟩

/-- what holds at each round's head -/
def ScrI (w : World) (g : Nat) (os : List S43) (l0 : List Int) (k : Nat) (v4 v19 : Value) (wr : World) : Prop :=
  ∃ (j : Nat) (l : List Int) (n L : Int) (p A : Option Addr) (m c : Nat), v19 = .int .i64 (j : Int) ∧ j + k = os.length ∧ l.length ≤ l0.length + 1500 * j ∧ l = runOps l0 (os.take j) ∧
    wr.heap[g]? = some (.cells #[.int .i64 n, .int .i64 L, .pointer p, .slice A m c] VT (0, 0)) ∧ VRep (fun b => b ≠ g) wr (vec n L p (.slice A m c)) l ∧ SlV (fun b => b ≠ g) wr v4 (ints l) ∧ Below w.heap.size w wr

theorem lev_zero {n : Nat} (h : inTrie n = 0) : n ≤ 32 := by unfold inTrie at h; omega
theorem lev_up {n d : Nat} (h1 : 1 ≤ inTrie n) (h2 : inTrie n ≤ 32 ^ (d + 1)) (h3 : d = 0 ∨ 32 ^ d < inTrie n) : n ≤ 32 + 32 ^ (d + 1) ∧ ∀ j, j ≤ d → 32 ^ j < n := by
  have ha : inTrie n < n := by unfold inTrie at *; omega
  have hb : n ≤ 32 + inTrie n := by unfold inTrie; omega
  refine ⟨by omega, fun j hj => ?_⟩
  rcases h3 with rfl | h3
  · obtain rfl : j = 0 := by omega
    simp; unfold inTrie at h1; omega
  · have := Nat.pow_le_pow_right (show 0 < 32 by decide) hj
    omega

/-- the rooms of the levels -/
def RoomI (w : World) (g : Nat) (n : Int) (l : List Int) (L : Int) (p A : Option Addr) (m c : Nat) (d k : Nat) (v7 v47 : Value) (wr : World) : Prop :=
  ∃ j : Nat, v47 = .int .i64 (j : Int) ∧ v7 = .int .i64 ((32 ^ j : Nat) : Int) ∧ j + k = d + 1 ∧ wr.heap[g]? = some (.cells #[.int .i64 n, .int .i64 L, .pointer p, .slice A m c] VT (0, 0)) ∧ VRep (fun b => b ≠ g) wr (vec n L p (.slice A m c)) l ∧ Below w.heap.size w wr

theorem len_step (M a b c d : Nat) (h1 : a ≤ b + M) (h2 : b ≤ d + M * c) : a ≤ d + M * (c + 1) := by rw [Nat.mul_add_one]; omega

theorem runOps_succ (l : List Int) (os : List S43) (j : Nat) (o : S43) (h : os[j]? = some o) : runOps l (os.take (j + 1)) = doesL (runOps l (os.take j)) o.f0 o.f1 o.f2 o.f3 := by
  rw [List.take_add_one, h]
  simp [runOps, List.foldl_append]

set_option maxHeartbeats 4000000 in
theorem flat_in (v : Value) (os : List S43) (W : World) (hO : OpsV W v os) (hl : os.length ≤ 40) (hN : ∀ (q : Nat) (o : S43), os[q]? = some o → o.f3 ≤ 1500)
    (hf : ∀ V, Below W.heap.size W V → Calls Try.prog 18 #[v] V (Ret (fun u _ => u = .bool true) V)) :
    Calls Try.prog 7 #[v] W (Tru W) := by
  obtain ⟨As, cs, rfl, -⟩ := id hO
  have HF := Lib.hid hf; clear hf
  have HO := Lib.hid hO; clear hO
  have HN := Lib.hid hN; clear hN
  go_enter Try.func7, Try.ntmps7
  go_wp2_with (first
    | (go_at_call 8; ((with_reducible refine (live_c _).mono ?_); rintro e w1 ⟨v, rfl, rfl, hb1⟩; have hB1 : Below W.heap.size W w1 := below_trans (by go_grown) hb1; clear hb1))
    | (go_at_call 18; ((with_reducible refine (HF.out _ (by go_grown)).mono ?_); rintro e w2 ⟨v, rfl, rfl, hb2⟩; have hB2 : Below W.heap.size W w2 := below_trans hB1 hb2; clear hb2)))
  have hOl : (os.length : Int) ≤ 40 := by omega
  clear hB1
  go_loopg [4, 19] os.length (fun k v4 v19 wr => Aside (ScrI W w2.heap.size os [] k v4 v19 wr))
  case atStart =>
    show ScrI _ _ _ _ _ _ _ _
    refine ⟨0, [], 0, 0, none, none, 0, 0, rfl, by omega, by simp, rfl, blk_alloc (blk_new w2 _) _, zero_vec _ _, ⟨_, _, rfl, by simp, by simp [maxLen], fun h => absurd h (by simp), fun u hu => by simp at hu⟩, (hB2.alloc hB2.size _).alloc (by have := hB2.size; simp; omega) _⟩
  case round =>
    obtain ⟨j, l, n, L, p, A, m, c, rfl, hj, hll, hlr, BK, hV, hS, hB⟩ := hrel.out
    clear hrel
    obtain ⟨Ar, nr, cr, rfl⟩ := hS.form
    have hz : w2.heap.size < wr.heap.size := blk_lt BK
    have HBK := Lib.hid BK; clear BK
    have HV := Lib.hid hV; clear hV
    have HS := Lib.hid hS; clear hS
    have HLR := Lib.hid hlr; clear hlr
    have HLL := Lib.hid hll; clear hll
    cases gk with
    | succ k =>
      have hjl : j < os.length := by omega
      have hjI : (j : Int) < (os.length : Int) := by omega
      obtain ⟨ad, o, rfl, ho, c0, c1, c2, c3⟩ := HO.out.at j hjl
      have c0 := cell_below c0 hB
      have c1 := cell_below c1 hB
      have c2 := cell_below c2 hB
      have c3 := cell_below c3 hB
      have hoN := HN.out j o ho
      have HOJ := Lib.hid ho; clear ho
      obtain ⟨D, I, X, N⟩ := o
      obtain ⟨⟨k0, k1, k2, k3⟩, f0, f1, f2, f3⟩ := box4 HBK.out
      have g0 := fun o : Obj => cell_below k0 ((Below.refl wr.heap.size wr).alloc (Nat.le_refl _) o)
      have g1 := fun o : Obj => cell_below k1 ((Below.refl wr.heap.size wr).alloc (Nat.le_refl _) o)
      have g2 := fun o : Obj => cell_below k2 ((Below.refl wr.heap.size wr).alloc (Nat.le_refl _) o)
      have g3 := fun o : Obj => cell_below k3 ((Below.refl wr.heap.size wr).alloc (Nat.le_refl _) o)
      have HD := Lib.hid (fun o : Obj => does_c _ _ _ l D I X N (wr.alloc o) (HV.out.below ((Below.refl _ _).alloc (Nat.le_refl _) o)) (HS.out.below ((Below.refl _ _).alloc (Nat.le_refl _) o)) (by have h : N ≤ 1500 := hoN; omega) (by have := HLL.out; simp at this; omega))
      clear hoN
      go_wp2_with (go_at_call 19; ((with_reducible refine (HD.out _).mono ?_); rintro e w5 ⟨v, rfl, ⟨u, s, rfl, hV5, hS5⟩, hb5⟩; obtain ⟨n5, L5, p5, A5, m5, c5, rfl⟩ := vrep_form hV5; obtain ⟨A6, n6, c6, rfl⟩ := hS5.form; have HV5 := Lib.hid (hV5.mono (K' := fun b => b ≠ w2.heap.size) fun b h => h.elim id (fun h => by rw [World.size_alloc] at h; omega)); have HS5 := Lib.hid (hS5.mono (K' := fun b => b ≠ w2.heap.size) fun b h => h.elim id (fun h => by rw [World.size_alloc] at h; omega)); clear hV5 hS5; have hb5' : Below wr.heap.size wr w5 := below_trans ((Below.refl _ _).alloc (Nat.le_refl _) _) hb5; have B5 := blk_below HBK.out hb5'; obtain ⟨⟨k0, k1, k2, k3⟩, f0, f1, f2, f3⟩ := box4 B5; have HB5 := Lib.hid B5; clear B5))
      go_roundg k
      case measure => omega
      case rel =>
        show ScrI _ _ _ _ _ _ _ _
        have hn : ¬ (fun b => b ≠ w2.heap.size) w2.heap.size := fun h => h rfl
        have hW : W.heap.size ≤ w2.heap.size := hB2.size
        have hlr := runOps_succ [] os j ⟨D, I, X, N⟩ HOJ.out
        refine ⟨j + 1, doesL l D I X N, n5, L5, p5, A5, m5, c5, by first | rfl | (push_cast; rfl), by omega, ?_, ?_, put4 HB5.out, vrep_far (vrep_far (vrep_far (vrep_far HV5.out _ _ _ hn) _ _ _ hn) _ _ _ hn) _ _ _ hn, slv_far (slv_far (slv_far (slv_far HS5.out _ _ _ hn) _ _ _ hn) _ _ _ hn) _ _ _ hn, ?_⟩
        · exact len_step _ _ _ _ _ (doesL_len l D I X N (HN.out j _ HOJ.out)) HLL.out
        · rw [hlr, ← HLR.out]
        · have := below_trans hB hb5'
          exact (((this.setCell hW _).setCell hW _).setCell hW _).setCell hW _
    | zero =>
      obtain rfl : j = os.length := by omega
      clear hj
      have hln : l.length ≤ 100000 := by have := HLL.out; simp at this; omega
      obtain ⟨⟨k0, k1, k2, k3⟩, -, -, -, -⟩ := box4 HBK.out
      have hlev : Lev (inTrie l.length) L := by
        obtain ⟨_, L', _, _, e1, h1⟩ := HV.out.lev
        simp only [vec, Value.agg.injEq, Array.mk.injEq, List.cons.injEq, Value.int.injEq, true_and] at e1
        obtain ⟨_, rfl, _⟩ := e1
        exact h1
      have HLEV := Lib.hid hlev; clear hlev
      have HLN := Lib.hid hln; clear hln
      have HList := Lib.hid (fun V (hw : Below wr.heap.size wr V) => list_c _ _ _ V (HV.out.below hw))
      have HLen := Lib.hid (fun V (hw : Below wr.heap.size wr V) => len_r _ _ _ V (HV.out.below hw))
      go_wp2_with fail
      go_region_held3 (fun w' => w'.cell? ⟨w2.heap.size, 0, none⟩ = some (.int .i64 n) ∧ w'.cell? ⟨w2.heap.size, 1, none⟩ = some (.int .i64 L) ∧ w'.cell? ⟨w2.heap.size, 2, none⟩ = some (.pointer p) ∧ w'.cell? ⟨w2.heap.size, 3, none⟩ = some (.slice A m c))
        ((refine ⟨?_, ?_, ?_, ?_⟩ <;> first | (with_reducible exact cell_below k0 (by assumption)) | (with_reducible exact cell_below k1 (by assumption)) | (with_reducible exact cell_below k2 (by assumption)) | (with_reducible exact cell_below k3 (by assumption)) | (go_keep; done)))
        (first
          | (go_at_call 17; (with_reducible refine (levR _ _ _ _ _).mono ?_); rintro e wb ⟨v, rfl, rfl, hbb⟩; have hBb : Below wr.heap.size wr wb := below_trans (by first | (with_reducible assumption) | exact (Below.refl _ _).drew) hbb)
          | (go_at_call 12; (with_reducible refine (HList.out _ ?_).mono ?_); (first | (with_reducible assumption) | exact (Below.refl _ _).drew); rintro e wc ⟨v, rfl, hSc, hbc⟩; obtain ⟨Ac, nc, cc, rfl⟩ := hSc.form; have hC : Below wr.heap.size wr wc := below_trans (by first | (with_reducible assumption) | exact (Below.refl _ _).drew) hbc)
          | (go_at_call 9; (first | (with_reducible refine (of_c _ _ _ _ hSc (by have := HLN.out; omega)).mono ?_) | (with_reducible refine (of_c _ _ _ _ (hSc.below hbb) (by have := HLN.out; omega)).mono ?_)); rintro e wd ⟨v, rfl, hVd, hbd⟩; obtain ⟨nd, Ld, pd, Ad, md, cd, rfl⟩ := vrep_form hVd; have hld : Lev (inTrie l.length) Ld := (by obtain ⟨_, L', _, _, e1, h1⟩ := hVd.lev; simp only [vec, Value.agg.injEq, Array.mk.injEq, List.cons.injEq, Value.int.injEq, true_and] at e1; obtain ⟨_, rfl, _⟩ := e1; exact h1); obtain rfl : Ld = L := hld.one HLEV.out; clear hld; have hD : Below wr.heap.size wr wd := below_trans (by first | (with_reducible assumption) | exact (Below.refl _ _).drew) hbd)
          | fail)
      all_goals
        have hBw := below_trans hB hBb
        have BB := blk_below HBK.out hBb
        clear HBK HList HLen k0 k1 k2 k3 hbb hbd hbc hC hD hVd hSc
        obtain ⟨⟨k0, k1, k2, k3⟩, -, -, -, -⟩ := box4 BB
        have HBB := Lib.hid BB
        clear BB
        have HVb := Lib.hid (HV.out.below hBb)
        clear HV HS
        have HLenb := Lib.hid (fun V (hw : Below wb.heap.size wb V) => len_r _ _ _ V (HVb.out.below hw))
        rcases HLEV.out with ⟨h0, hL⟩ | ⟨d, hL, h1, h2, h3⟩
        · subst hL
          have hlz : decide ((l.length : Int) ≤ 32) = true := decide_eq_true (by have := lev_zero h0; omega)
          clear h0
          go_wp2_with (first
            | (go_at_call 17; (with_reducible refine (levR _ _ _ _ _).mono ?_); rintro e we ⟨v, rfl, rfl, hbe⟩; have BE := blk_below HBB.out hbe; obtain ⟨⟨k0, k1, k2, k3⟩, -, -, -, -⟩ := box4 BE; clear BE)
            | (go_at_call 16; (with_reducible refine (HLenb.out _ hbe).mono ?_); rintro e wf ⟨v, rfl, rfl, hbf⟩; have hF : Below W.heap.size W wf := below_trans (below_trans hBw hbe) hbf))
          go_returns
          exact ⟨rfl, hF⟩
        · have hlu := lev_up h1 h2 h3
          have hd : d ≤ 3 := by
            rcases h3 with h | h
            · omega
            · exact lev_small h (by have := HLN.out; unfold inTrie; omega)
          clear h1 h2 h3
          have HLU := Lib.hid hlu; clear hlu
          have HD := Lib.hid hd; clear hd
          have hn0 : (Ld == 0) = false := beq_false_of_ne (by omega)
          have HLD := Lib.hid hL; clear hL HLenb
          go_wp2_with (first
            | (go_at_call 17; (with_reducible refine (levR _ _ _ _ _).mono ?_); rintro e we ⟨v, rfl, rfl, hbe⟩; have hBw2 := below_trans hBw hbe; clear hBw; have hBw := hBw2; clear hBw2; have BE := blk_below HBB.out hbe; obtain ⟨⟨k0, k1, k2, k3⟩, -, -, -, -⟩ := box4 BE; clear HBB; have HBB := Lib.hid BE; clear BE; have HVe := Lib.hid (HVb.out.below hbe); clear HVb; have HVb := HVe; clear HVe hbe))
          clear k0 k1 k2 k3
          have hLd : Ld = (d : Int) + 1 := HLD.out
          subst hLd
          clear HLD hn0
          go_loopg [7, 47] (d + 1) (fun k v7 v47 wr => Aside (RoomI W w2.heap.size n l ((d : Int) + 1) p A m c d k v7 v47 wr))
          case atStart =>
            show RoomI _ _ _ _ _ _ _ _ _ _ _ _ _ _
            exact ⟨0, rfl, rfl, by omega, HBB.out, HVb.out, hBw⟩
          case round =>
            clear HBB HVb hBw
            obtain ⟨j, rfl, rfl, hj, BK, hV, hBw⟩ := hrel.out
            clear hrel
            obtain ⟨⟨k0, k1, k2, k3⟩, -, -, -, -⟩ := box4 BK
            have HBK := Lib.hid BK; clear BK
            have HLenb := Lib.hid (fun V (hw : Below wr.heap.size wr V) => len_r _ _ _ V (hV.below hw))
            have HVb := Lib.hid hV; clear hV
            have hpw : 32 ^ j ≤ 32 ^ 4 := Nat.pow_le_pow_right (by decide) (by have := HD.out; omega)
            have hp0 : 0 < 32 ^ j := Nat.pow_pos (by decide)
            obtain ⟨P, hP⟩ : ∃ P : Nat, P = 32 ^ j := ⟨_, rfl⟩
            rw [← hP] at hpw hp0 ⊢
            have hPs : 32 ^ (j + 1) = P * 32 := by rw [Nat.pow_succ, hP]
            have HP := Lib.hid hP; clear hP
            have HPS := Lib.hid hPs; clear hPs
            have hPI : (P : Int) ≤ 1048576 := by have h4 : (32 : Nat) ^ 4 = 1048576 := (by decide); omega
            have hP0 : 0 ≤ (P : Int) := by omega
            cases gk with
            | succ k =>
              have hjd : (j : Int) < (d : Int) + 1 := by omega
              have hjb : (j : Int) ≤ 3 := by have := HD.out; omega
              have hPl : (P : Int) < (l.length : Int) := by have := HLU.out.2 j (by omega); rw [← HP.out] at this; omega
              clear hpw hp0
              go_wp2_with (go_at_call 16; (with_reducible refine (HLenb.out _ (Below.refl _ _)).mono ?_); rintro e wf ⟨v, rfl, rfl, hbf⟩)
              go_roundg k
              case measure => omega
              case rel =>
                show RoomI _ _ _ _ _ _ _ _ _ _ _ _ _ _
                exact ⟨j + 1, by first | rfl | (push_cast; rfl), by rw [HPS.out]; first | rfl | (push_cast; rfl), by omega, blk_below HBK.out hbf, HVb.out.below hbf, below_trans hBw hbf⟩
            | zero =>
              obtain rfl : j = d + 1 := by omega
              clear hj hpw hp0
              have hPl : (l.length : Int) ≤ 32 + (P : Int) := by have := HLU.out.1; rw [← HP.out] at this; omega
              go_wp2_with (go_at_call 16; (with_reducible refine (HLenb.out _ (Below.refl _ _)).mono ?_); rintro e wf ⟨v, rfl, rfl, hbf⟩)
              go_returns
              exact ⟨rfl, below_trans hBw hbf⟩

theorem flat_walk (v : Value) (os : List S43) (W : World) (hO : OpsV W v os) :
    Calls Try.prog 7 #[v] W fun e W' => e = .returned (.bool true) ∧ Below W.heap.size W W' := by
  obtain ⟨r, h1, h2⟩ := few_c W v os hO
  cases r with
  | false => exact flat_out v os W h2
  | true => exact flat_in v os W hO (h1 rfl).1 (h1 rfl).2 h2
end Go.Proofs.Ytmoakgacffjblaa.Pv
