/- Two vectors that are made of one go on each by itself: the law's walk. -/
import Derived.Test.YtmoakgacffjblaaPvBC
import Derived.Deep.DeepCutAuto
import Derived.Deep.RegionWith
set_option linter.unusedVariables false
set_option linter.unusedSimpArgs false
namespace Go.Proofs.Ytmoakgacffjblaa.Pv
open Go Go.RowKit Go.Proofs.Ytmoakgacffjblaa.Mem Go.Proofs.YtmoakgacffjblaaW.PrintWords Go.Proofs.Ytmoakgacffjblaa.PPvecDoes

set_option maxHeartbeats 4000000 in
theorem br_out0 (v0 v1 v2 : Value) (W : World) (h0 : ∀ V, Below W.heap.size W V → Calls Try.prog 18 #[v0] V (Ret (fun u _ => u = .bool false) V)) :
    Calls Try.prog 6 #[v0, v1, v2] W (Tru W) := by
  have H0 := Lib.hid h0; clear h0
  go_enter Try.func6, Try.ntmps6
  go_wp2_with (first
    | (go_at_call 8; ((with_reducible refine (live_c _).mono ?_); rintro e w1 ⟨v, rfl, rfl, hb1⟩; have hB := below_trans (by first | exact Below.refl _ _ | assumption : Below W.heap.size W _) hb1; clear hb1))
    | (go_at_call 18; ((with_reducible refine (H0.out _ (by assumption)).mono ?_); rintro e w2 ⟨v, rfl, rfl, hb2⟩; have hB := below_trans (by assumption : Below W.heap.size W _) hb2; clear hb2 H0))
    )
  go_returns
  exact ⟨rfl, by assumption⟩

set_option maxHeartbeats 4000000 in
theorem br_out1 (v0 v1 v2 : Value) (W : World) (h0 : ∀ V, Below W.heap.size W V → Calls Try.prog 18 #[v0] V (Ret (fun u _ => u = .bool true) V)) (h1 : ∀ V, Below W.heap.size W V → Calls Try.prog 18 #[v1] V (Ret (fun u _ => u = .bool false) V)) :
    Calls Try.prog 6 #[v0, v1, v2] W (Tru W) := by
  have H0 := Lib.hid h0; clear h0
  have H1 := Lib.hid h1; clear h1
  go_enter Try.func6, Try.ntmps6
  go_wp2_with (first
    | (go_at_call 8; ((with_reducible refine (live_c _).mono ?_); rintro e w1 ⟨v, rfl, rfl, hb1⟩; have hB := below_trans (by first | exact Below.refl _ _ | assumption : Below W.heap.size W _) hb1; clear hb1))
    | (go_at_call 18; ((with_reducible refine (H0.out _ (by assumption)).mono ?_); rintro e w2 ⟨v, rfl, rfl, hb2⟩; have hB := below_trans (by assumption : Below W.heap.size W _) hb2; clear hb2 H0))
    | (go_at_call 18; ((with_reducible refine (H1.out _ (by assumption)).mono ?_); rintro e w2 ⟨v, rfl, rfl, hb2⟩; have hB := below_trans (by assumption : Below W.heap.size W _) hb2; clear hb2 H1))
    )
  go_returns
  exact ⟨rfl, by assumption⟩

set_option maxHeartbeats 4000000 in
theorem br_out2 (v0 v1 v2 : Value) (W : World) (h0 : ∀ V, Below W.heap.size W V → Calls Try.prog 18 #[v0] V (Ret (fun u _ => u = .bool true) V)) (h1 : ∀ V, Below W.heap.size W V → Calls Try.prog 18 #[v1] V (Ret (fun u _ => u = .bool true) V)) (h2 : ∀ V, Below W.heap.size W V → Calls Try.prog 18 #[v2] V (Ret (fun u _ => u = .bool false) V)) :
    Calls Try.prog 6 #[v0, v1, v2] W (Tru W) := by
  have H0 := Lib.hid h0; clear h0
  have H1 := Lib.hid h1; clear h1
  have H2 := Lib.hid h2; clear h2
  go_enter Try.func6, Try.ntmps6
  go_wp2_with (first
    | (go_at_call 8; ((with_reducible refine (live_c _).mono ?_); rintro e w1 ⟨v, rfl, rfl, hb1⟩; have hB := below_trans (by first | exact Below.refl _ _ | assumption : Below W.heap.size W _) hb1; clear hb1))
    | (go_at_call 18; ((with_reducible refine (H0.out _ (by assumption)).mono ?_); rintro e w2 ⟨v, rfl, rfl, hb2⟩; have hB := below_trans (by assumption : Below W.heap.size W _) hb2; clear hb2 H0))
    | (go_at_call 18; ((with_reducible refine (H1.out _ (by assumption)).mono ?_); rintro e w2 ⟨v, rfl, rfl, hb2⟩; have hB := below_trans (by assumption : Below W.heap.size W _) hb2; clear hb2 H1))
    | (go_at_call 18; ((with_reducible refine (H2.out _ (by assumption)).mono ?_); rintro e w2 ⟨v, rfl, rfl, hb2⟩; have hB := below_trans (by assumption : Below W.heap.size W _) hb2; clear hb2 H2))
    )
  go_returns
  exact ⟨rfl, by assumption⟩


/-- the vectors' boxes, and what the vectors and the document's lists have -/
def BrS (w : World) (g ga gb : Nat) (v va vb : Value) (s sa sb : Value) (l la lb : List Int) (wr : World) : Prop :=
  wr.heap[g]? = some (.cells v.cells VT (0, 0)) ∧ wr.heap[ga]? = some (.cells va.cells VT (0, 0)) ∧ wr.heap[gb]? = some (.cells vb.cells VT (0, 0)) ∧
  (VRep (fun b => b ≠ g ∧ b ≠ ga ∧ b ≠ gb) wr v l ∧ SlV (fun b => b ≠ g ∧ b ≠ ga ∧ b ≠ gb) wr s (ints l)) ∧ (VRep (fun b => b ≠ g ∧ b ≠ ga ∧ b ≠ gb) wr va la ∧ SlV (fun b => b ≠ g ∧ b ≠ ga ∧ b ≠ gb) wr sa (ints la)) ∧ (VRep (fun b => b ≠ g ∧ b ≠ ga ∧ b ≠ gb) wr vb lb ∧ SlV (fun b => b ≠ g ∧ b ≠ ga ∧ b ≠ gb) wr sb (ints lb)) ∧ Below w.heap.size w wr

def BrI (w : World) (g ga gb : Nat) (v s : Value) (l : List Int) (T k : Nat) (v13 v14 v59 : Value) (wr : World) : Prop :=
  ∃ (j : Nat) (la lb : List Int) (n L : Int) (p A : Option Addr) (m c : Nat) (n' L' : Int) (p' A' : Option Addr) (m' c' : Nat), v59 = .int .i64 (j : Int) ∧ j + k = T ∧ la.length ≤ 60000 + 1500 * j ∧ lb.length ≤ 60000 + 1500 * j ∧
    BrS w g ga gb v (vec n L p (.slice A m c)) (vec n' L' p' (.slice A' m' c')) s v13 v14 l la lb wr

/-- a store of what came of one vector into its box -/
theorem BrS.stored {w : World} {g ga gb : Nat} {v va vb s sa sb : Value} {l la lb : List Int} {wr : World} (h : BrS w g ga gb v va vb s sa sb l la lb wr) (hg : g ≠ ga) (hab : gb ≠ ga) (hw : w.heap.size ≤ ga)
    {w5 : World} (hb : Below wr.heap.size wr w5) (n L : Int) (p A : Option Addr) (m c : Nat) (s' : Value) (l' : List Int) (hV : VRep (New (fun b => b ≠ g ∧ b ≠ ga ∧ b ≠ gb) wr) w5 (vec n L p (.slice A m c)) l') (hS : SlV (New (fun b => b ≠ g ∧ b ≠ ga ∧ b ≠ gb) wr) w5 s' (ints l')) :
    BrS w g ga gb v (vec n L p (.slice A m c)) vb s s' sb l l' lb (put4w w5 ga (.int .i64 n) (.int .i64 L) (.pointer p) (.slice A m c)) := by
  obtain ⟨b0, b1, b2, ⟨v0, s0⟩, ⟨v1, s1⟩, ⟨v2, s2⟩, hB⟩ := h
  have hn : ¬ (fun b => b ≠ g ∧ b ≠ ga ∧ b ≠ gb) ga := fun h => h.2.1 rfl
  have hg0 := blk_lt b0
  have hg1 := blk_lt b1
  have hg2 := blk_lt b2
  obtain ⟨a0, a1, a2, a3, hva⟩ : ∃ a0 a1 a2 a3, w5.heap[ga]? = some (.cells #[a0, a1, a2, a3] VT (0, 0)) := by
    have := blk_below b1 hb
    obtain ⟨n0, L0, p0, A0, m0, c0, rfl⟩ := vrep_form v1
    exact ⟨_, _, _, _, this⟩
  have fv : ∀ {x : Value} {y : List Int}, VRep (fun b => b ≠ g ∧ b ≠ ga ∧ b ≠ gb) w5 x y → VRep (fun b => b ≠ g ∧ b ≠ ga ∧ b ≠ gb) (put4w w5 ga (.int .i64 n) (.int .i64 L) (.pointer p) (.slice A m c)) x y := fun h => vrep_far (vrep_far (vrep_far (vrep_far h _ _ _ hn) _ _ _ hn) _ _ _ hn) _ _ _ hn
  have fs : ∀ {x : Value} {y : List Value}, SlV (fun b => b ≠ g ∧ b ≠ ga ∧ b ≠ gb) w5 x y → SlV (fun b => b ≠ g ∧ b ≠ ga ∧ b ≠ gb) (put4w w5 ga (.int .i64 n) (.int .i64 L) (.pointer p) (.slice A m c)) x y := fun h => slv_far (slv_far (slv_far (slv_far h _ _ _ hn) _ _ _ hn) _ _ _ hn) _ _ _ hn
  have hK : ∀ b, New (fun b => b ≠ g ∧ b ≠ ga ∧ b ≠ gb) wr b → (fun b => b ≠ g ∧ b ≠ ga ∧ b ≠ gb) b := fun b h => h.elim id (fun h => ⟨by omega, by omega, by omega⟩)
  refine ⟨blk_far (blk_far (blk_far (blk_far (blk_below b0 hb) hg _) hg _) hg _) hg _, put4 hva, blk_far (blk_far (blk_far (blk_far (blk_below b2 hb) hab _) hab _) hab _) hab _, ⟨fv (v0.below hb), fs (s0.below hb)⟩, ⟨fv (hV.mono hK), fs (hS.mono hK)⟩, ⟨fv (v2.below hb), fs (s2.below hb)⟩, ?_⟩
  have := below_trans hB hb
  exact (((this.setCell hw _).setCell hw _).setCell hw _).setCell hw _

theorem BrS.swap {w : World} {g ga gb : Nat} {v va vb s sa sb : Value} {l la lb : List Int} {wr : World} (h : BrS w g ga gb v va vb s sa sb l la lb wr) : BrS w g gb ga v vb va s sb sa l lb la wr := by
  obtain ⟨b0, b1, b2, ⟨v0, s0⟩, ⟨v1, s1⟩, ⟨v2, s2⟩, hB⟩ := h
  have hk : ∀ b, (fun b => b ≠ g ∧ b ≠ ga ∧ b ≠ gb) b → (fun b => b ≠ g ∧ b ≠ gb ∧ b ≠ ga) b := fun b h => ⟨h.1, h.2.2, h.2.1⟩
  exact ⟨b0, b2, b1, ⟨v0.mono hk, s0.mono hk⟩, ⟨v2.mono hk, s2.mono hk⟩, ⟨v1.mono hk, s1.mono hk⟩, hB⟩

theorem BrS.init {w wr : World} {g : Nat} {n L : Int} {p A : Option Addr} {m c : Nat} {s : Value} {l : List Int} (hB : Below w.heap.size w wr) (b0 : wr.heap[g]? = some (.cells #[.int .i64 n, .int .i64 L, .pointer p, .slice A m c] VT (0, 0)))
    (hV : VRep (fun b => b ≠ g) wr (vec n L p (.slice A m c)) l) (hS : SlV (fun b => b ≠ g) wr s (ints l)) :
    BrS w g wr.heap.size (wr.heap.size + 1) (vec n L p (.slice A m c)) (vec n L p (.slice A m c)) (vec n L p (.slice A m c)) s s s l l l ((wr.alloc (.cells #[.int .i64 n, .int .i64 L, .pointer p, .slice A m c] VT)).alloc (.cells #[.int .i64 n, .int .i64 L, .pointer p, .slice A m c] VT)).drew := by
  have hB' : Below wr.heap.size wr ((wr.alloc (.cells #[.int .i64 n, .int .i64 L, .pointer p, .slice A m c] VT)).alloc (.cells #[.int .i64 n, .int .i64 L, .pointer p, .slice A m c] VT)).drew := Below.drew (by go_grown)
  have h1 := (vrep_bound hV).mono (K' := fun b => b ≠ g ∧ b ≠ wr.heap.size ∧ b ≠ wr.heap.size + 1) fun b h => ⟨h.1, by have := h.2; omega, by have := h.2; omega⟩
  have h2 := hS.bound.mono (K' := fun b => b ≠ g ∧ b ≠ wr.heap.size ∧ b ≠ wr.heap.size + 1) fun b h => ⟨h.1, by have := h.2; omega, by have := h.2; omega⟩
  exact ⟨blk_below b0 hB', blk_drew (blk_alloc (blk_new wr _) _), blk_drew (heap_k1 wr _ _), ⟨h1.below hB', h2.below hB'⟩, ⟨h1.below hB', h2.below hB'⟩, ⟨h1.below hB', h2.below hB'⟩, below_trans hB hB'⟩

set_option maxRecDepth 100000 in
set_option maxHeartbeats 8000000 in
theorem br_in (v0 v1 v2 : Value) (os one two : List S43) (W : World) (hO0 : OpsV W v0 os) (hl0 : os.length ≤ 40) (hN0 : ∀ (q : Nat) (o : S43), os[q]? = some o → o.f3 ≤ 1500)
    (hO1 : OpsV W v1 one) (hl1 : one.length ≤ 40) (hN1 : ∀ (q : Nat) (o : S43), one[q]? = some o → o.f3 ≤ 1500) (hO2 : OpsV W v2 two) (hl2 : two.length ≤ 40) (hN2 : ∀ (q : Nat) (o : S43), two[q]? = some o → o.f3 ≤ 1500)
    (h0 : ∀ V, Below W.heap.size W V → Calls Try.prog 18 #[v0] V (Ret (fun u _ => u = .bool true) V)) (h1 : ∀ V, Below W.heap.size W V → Calls Try.prog 18 #[v1] V (Ret (fun u _ => u = .bool true) V)) (h2 : ∀ V, Below W.heap.size W V → Calls Try.prog 18 #[v2] V (Ret (fun u _ => u = .bool true) V)) :
    Calls Try.prog 6 #[v0, v1, v2] W (Tru W) := by
  obtain ⟨A0, c0, rfl, -⟩ := id hO0
  obtain ⟨A1, c1, rfl, -⟩ := id hO1
  obtain ⟨A2, c2, rfl, -⟩ := id hO2
  have H0 := Lib.hid h0; clear h0
  have H1 := Lib.hid h1; clear h1
  have H2 := Lib.hid h2; clear h2
  have HO0 := Lib.hid hO0; clear hO0
  have HO1 := Lib.hid hO1; clear hO1
  have HO2 := Lib.hid hO2; clear hO2
  have HN0 := Lib.hid hN0; clear hN0
  have HN1 := Lib.hid hN1; clear hN1
  have HN2 := Lib.hid hN2; clear hN2
  go_enter Try.func6, Try.ntmps6
  go_wp2_with (first
    | (go_at_call 8; ((with_reducible refine (live_c _).mono ?_); rintro e w1 ⟨v, rfl, rfl, hb1⟩; have hB := below_trans (by first | exact Below.refl _ _ | assumption : Below W.heap.size W _) hb1; clear hb1))
    | (go_at_call 18; ((with_reducible refine (H0.out _ (by assumption)).mono ?_); rintro e w2 ⟨v, rfl, rfl, hb2⟩; have hB0 := below_trans (by assumption : Below W.heap.size W _) hb2; clear hb2 H0 hB))
    | (go_at_call 18; ((with_reducible refine (H1.out _ (by assumption)).mono ?_); rintro e w2 ⟨v, rfl, rfl, hb2⟩; have hB1 := below_trans (by assumption : Below W.heap.size W _) hb2; clear hb2 H1 hB0))
    | (go_at_call 18; ((with_reducible refine (H2.out _ (by assumption)).mono ?_); rintro e w2 ⟨v, rfl, rfl, hb2⟩; have hB2 := below_trans (by assumption : Below W.heap.size W _) hb2; clear hb2 H2 hB1))
    )
  have hOl : (os.length : Int) ≤ 40 := by omega
  have hw2 : Hid (W.heap.size ≤ w2.heap.size) := Lib.hid hB2.size
  go_loopg [8, 37] os.length (fun k v8 v37 wr => Aside (ScrI W w2.heap.size os [] k v8 v37 wr))
  case atStart =>
    show ScrI _ _ _ _ _ _ _ _
    refine ⟨0, [], 0, 0, none, none, 0, 0, rfl, by omega, by simp, rfl, blk_alloc (blk_new w2 _) _, zero_vec _ _, ⟨_, _, rfl, by simp, by simp [maxLen], fun h => absurd h (by simp), fun u hu => by simp at hu⟩, (hB2.alloc hB2.size _).alloc (by have := hB2.size; simp; omega) _⟩
  case round =>
    clear hB2
    obtain ⟨j, l, n, L, p, A, m, c, rfl, hj, hll, hlr, BK, hV, hS, hB⟩ := hrel.out
    clear hrel
    obtain ⟨Ar, nr, cr, rfl⟩ := hS.form
    have hz : w2.heap.size < wr.heap.size := blk_lt BK
    have HBK := Lib.hid BK; clear BK
    have HV := Lib.hid hV; clear hV
    have HS := Lib.hid hS; clear hS
    have HLR := Lib.hid hlr; clear hlr
    have HLL := Lib.hid hll; clear hll
    cases gk with
    | succ k =>
      have hjl : j < os.length := by omega
      have hjI : (j : Int) < (os.length : Int) := by omega
      obtain ⟨ad, o, rfl, ho, c0, c1, c2, c3⟩ := HO0.out.at j hjl
      have c0 := cell_below c0 hB
      have c1 := cell_below c1 hB
      have c2 := cell_below c2 hB
      have c3 := cell_below c3 hB
      have hoN := HN0.out j o ho
      have HOJ := Lib.hid ho; clear ho
      obtain ⟨D, I, X, N⟩ := o
      obtain ⟨⟨k0, k1, k2, k3⟩, f0, f1, f2, f3⟩ := box4 HBK.out
      have g0 := fun o : Obj => cell_below k0 ((Below.refl wr.heap.size wr).alloc (Nat.le_refl _) o)
      have g1 := fun o : Obj => cell_below k1 ((Below.refl wr.heap.size wr).alloc (Nat.le_refl _) o)
      have g2 := fun o : Obj => cell_below k2 ((Below.refl wr.heap.size wr).alloc (Nat.le_refl _) o)
      have g3 := fun o : Obj => cell_below k3 ((Below.refl wr.heap.size wr).alloc (Nat.le_refl _) o)
      have HD := Lib.hid (fun o : Obj => does_c _ _ _ l D I X N (wr.alloc o) (HV.out.below ((Below.refl _ _).alloc (Nat.le_refl _) o)) (HS.out.below ((Below.refl _ _).alloc (Nat.le_refl _) o)) (by have h : N ≤ 1500 := hoN; omega) (by have := HLL.out; simp at this; omega))
      clear hoN
      go_wp2_with (go_at_call 19; ((with_reducible refine (HD.out _).mono ?_); rintro e w5 ⟨v, rfl, ⟨u, s, rfl, hV5, hS5⟩, hb5⟩; obtain ⟨n5, L5, p5, A5, m5, c5, rfl⟩ := vrep_form hV5; obtain ⟨A6, n6, c6, rfl⟩ := hS5.form; have HV5 := Lib.hid (hV5.mono (K' := fun b => b ≠ w2.heap.size) fun b h => h.elim id (fun h => by rw [World.size_alloc] at h; omega)); have HS5 := Lib.hid (hS5.mono (K' := fun b => b ≠ w2.heap.size) fun b h => h.elim id (fun h => by rw [World.size_alloc] at h; omega)); clear hV5 hS5; have hb5' : Below wr.heap.size wr w5 := below_trans ((Below.refl _ _).alloc (Nat.le_refl _) _) hb5; have B5 := blk_below HBK.out hb5'; obtain ⟨⟨k0, k1, k2, k3⟩, f0, f1, f2, f3⟩ := box4 B5; have HB5 := Lib.hid B5; clear B5))
      go_roundg k
      case measure => omega
      case rel =>
        show ScrI _ _ _ _ _ _ _ _
        have hn : ¬ (fun b => b ≠ w2.heap.size) w2.heap.size := fun h => h rfl
        have hW : W.heap.size ≤ w2.heap.size := hw2.out
        have hlr := runOps_succ [] os j ⟨D, I, X, N⟩ HOJ.out
        refine ⟨j + 1, doesL l D I X N, n5, L5, p5, A5, m5, c5, by first | rfl | (push_cast; rfl), by omega, ?_, ?_, put4 HB5.out, vrep_far (vrep_far (vrep_far (vrep_far HV5.out _ _ _ hn) _ _ _ hn) _ _ _ hn) _ _ _ hn, slv_far (slv_far (slv_far (slv_far HS5.out _ _ _ hn) _ _ _ hn) _ _ _ hn) _ _ _ hn, ?_⟩
        · exact len_step _ _ _ _ _ (doesL_len l D I X N (HN0.out j _ HOJ.out)) HLL.out
        · rw [hlr, ← HLR.out]
        · have := below_trans hB hb5'
          exact (((this.setCell hW _).setCell hW _).setCell hW _).setCell hW _
    | zero =>
      obtain rfl : j = os.length := by omega
      have hln : l.length ≤ 60000 := by have := HLL.out; simp at this; omega
      clear hj
      obtain ⟨⟨k0, k1, k2, k3⟩, -, -, -, -⟩ := box4 HBK.out
      go_upto_region 10 with fail
      go_cut [11, 12] (fun s11 s12 wx => ∃ ga gb : Nat, s11 = .pointer (some ⟨ga, 0, none⟩) ∧ s12 = .pointer (some ⟨gb, 0, none⟩) ∧ ga ≠ gb ∧ w2.heap.size < ga ∧ w2.heap.size < gb ∧ BrS W w2.heap.size ga gb (vec n L p (.slice A m c)) (vec n L p (.slice A m c)) (vec n L p (.slice A m c)) (.slice Ar nr cr) (.slice Ar nr cr) (.slice Ar nr cr) l l l wx)
      case first =>
        go_region_held3 (fun w' => w'.cell? ⟨w2.heap.size, 0, none⟩ = some (.int .i64 n) ∧ w'.cell? ⟨w2.heap.size, 1, none⟩ = some (.int .i64 L) ∧ w'.cell? ⟨w2.heap.size, 2, none⟩ = some (.pointer p) ∧ w'.cell? ⟨w2.heap.size, 3, none⟩ = some (.slice A m c))
          (go_keep) (fail)
        all_goals (go_wp2_with fail; go_meet; first | exact ⟨_, _, rfl, rfl, by omega, by omega, by omega, BrS.init hB HBK.out HV.out HS.out⟩ | exact ⟨_, _, rfl, rfl, by omega, by omega, by omega, (BrS.init hB HBK.out HV.out HS.out).swap⟩)
      case rest =>
        obtain ⟨ga, gb, rfl, rfl, hab, hga, hgb, hI⟩ := hcut
        clear HBK HV HS HLR HLL hB k0 k1 k2 k3 hOl
        have HI := Lib.hid hI; clear hI
        rcases Nat.lt_or_ge one.length two.length with hlt | hge
        · have hltI : (one.length : Int) < (two.length : Int) := by omega
          go_wp2_with fail
          go_loopg [13, 14, 59] two.length (fun k v13 v14 v59 wr => Aside (BrI W w2.heap.size ga gb (vec n L p (.slice A m c)) (.slice Ar nr cr) l two.length k v13 v14 v59 wr))
          case atStart =>
            show BrI _ _ _ _ _ _ _ _ _ _ _ _ _
            exact ⟨0, l, l, _, _, _, _, _, _, _, _, _, _, _, _, rfl, by omega, by omega, by omega, HI.out⟩
          case round =>
            clear HI
            obtain ⟨j, la, lb, na, La, pa, Aa, ma, ca, nb, Lb, pb, Ab, mb, cb, rfl, hj, hla, hlb, hI⟩ := hrel.out
            clear hrel
            have HI := Lib.hid hI; clear hI
            have Hhla := Lib.hid hla; clear hla
            have Hhlb := Lib.hid hlb; clear hlb
            obtain ⟨Asa, nsa, csa, rfl⟩ := HI.out.2.2.2.2.1.2.form
            obtain ⟨Asb, nsb, csb, rfl⟩ := HI.out.2.2.2.2.2.1.2.form
            cases gk with
            | zero =>
              obtain ⟨b0, b1, b2, ⟨x0, y0⟩, ⟨x1, y1⟩, ⟨x2, y2⟩, hB⟩ := HI.out
              obtain ⟨⟨k0, k1, k2, k3⟩, -, -, -, -⟩ := box4 b1
              have HSA := Lib.hid (fun V (hw : Below wr.heap.size wr V) => same_c _ _ _ _ la V (x1.below hw) (y1.below hw) (by have := Hhla.out; omega))
              have HSB := Lib.hid (fun V (hw : Below wr.heap.size wr V) => same_c _ _ _ _ lb V (x2.below hw) (y2.below hw) (by have := Hhlb.out; omega))
              have HSC := Lib.hid (fun V (hw : Below wr.heap.size wr V) => same_c _ _ _ _ l V (x0.below hw) (y0.below hw) (by omega))
              clear x0 y0 x1 y1 x2 y2
              have HB0 := Lib.hid b0; clear b0
              have HB2 := Lib.hid b2; clear b2 b1
              have hjT : (two.length : Int) ≤ (j : Int) := by omega
              go_wp2_with (first
                | (go_at_call 22; ((with_reducible refine (HSA.out _ (Below.refl _ _)).mono ?_); rintro e wx ⟨v, rfl, rfl, hbx⟩; clear HSA; obtain ⟨⟨k0, k1, k2, k3⟩, -, -, -, -⟩ := box4 (blk_below HB2.out hbx)))
                | (go_at_call 22; ((with_reducible refine (HSB.out _ hbx).mono ?_); rintro e wy ⟨v, rfl, rfl, hby⟩; clear HSB; have hbxy := below_trans hbx hby; obtain ⟨⟨k0, k1, k2, k3⟩, -, -, -, -⟩ := box4 (blk_below HB0.out hbxy)))
                | (go_at_call 22; ((with_reducible refine (HSC.out _ hbxy).mono ?_); rintro e wz ⟨v, rfl, rfl, hbz⟩; clear HSC; have hbz2 := below_trans hbxy hbz)))
              go_returns
              exact ⟨rfl, below_trans hB hbz2⟩
            | succ k =>
              have hjI : (j : Int) < (two.length : Int) := by omega
              have hj2 : j < two.length := by omega
              by_cases hj1 : j < one.length
              · skip
                have hj1I : (j : Int) < (one.length : Int) := by omega
                have hj2I : (j : Int) < (two.length : Int) := by omega
                go_wp2_with fail
                obtain ⟨b0, b1, b2, -, ⟨x1, y1⟩, -, -⟩ := HI.out
                obtain ⟨⟨k0, k1, k2, k3⟩, -, -, -, -⟩ := box4 b1
                obtain ⟨ad1, o1, rfl, ho1, d0, d1, d2, d3⟩ := HO1.out.at j hj1
                have d0 := cell_below d0 HI.out.2.2.2.2.2.2
                have d1 := cell_below d1 HI.out.2.2.2.2.2.2
                have d2 := cell_below d2 HI.out.2.2.2.2.2.2
                have d3 := cell_below d3 HI.out.2.2.2.2.2.2
                have hoN := HN1.out j o1 ho1
                have HOJ1 := Lib.hid ho1; clear ho1
                obtain ⟨D1, I1, X1, N1⟩ := o1
                have hNN1 : N1 ≤ 1500 := hoN
                have HNN1 := Lib.hid hNN1; clear hNN1 hoN
                have HD1 := Lib.hid (fun V (hw : Below wr.heap.size wr V) => does_c _ _ _ la D1 I1 X1 N1 V (x1.below hw) (y1.below hw) (by have := HNN1.out; omega) (by have := Hhla.out; omega))
                have HB11 := Lib.hid b1; clear b0 b1 b2 x1 y1
                go_region_with (first
                  | (go_at_call 19; (with_reducible refine (HD1.out _ (Below.refl _ _).drew).mono ?_); rintro e w51 ⟨v, rfl, ⟨u, s, rfl, hV5, hS5⟩, hb5⟩; obtain ⟨n5, L5, p5, A5, m5, c5, rfl⟩ := vrep_form hV5; obtain ⟨A6, n6, c6, rfl⟩ := hS5.form; have HV5 := Lib.hid hV5; have HS5 := Lib.hid hS5; clear hV5 hS5; have hb5' : Below wr.heap.size wr w51 := below_trans (w1 := wr.drew) (Below.refl _ _).drew hb5; have B5 := blk_below HB11.out hb5'; obtain ⟨⟨k0, k1, k2, k3⟩, f0, f1, f2, f3⟩ := box4 B5; clear B5)
                  | fail)
                all_goals
                  generalize hW6 : (((w51.setCell ⟨ga, 0, none⟩ (.int .i64 n5)).setCell ⟨ga, 1, none⟩ (.int .i64 L5)).setCell ⟨ga, 2, none⟩ (.pointer p5)).setCell ⟨ga, 3, none⟩ (.slice A5 m5 c5) = w61
                  have hI6 := BrS.stored HI.out (by omega) (by omega) (by have := hw2.out; omega) hb5' n5 L5 p5 A5 m5 c5 _ _ HV5.out HS5.out
                  rw [show put4w w51 ga (.int .i64 n5) (.int .i64 L5) (.pointer p5) (.slice A5 m5 c5) = w61 from hW6] at hI6
                  clear hW6 HV5 HS5 HD1 HB11 hb5 hb5' k0 k1 k2 k3 f0 f1 f2 f3 d0 d1 d2 d3
                  clear HI
                  have HI := Lib.hid hI6; clear hI6
                  have hlen : (doesL la D1 I1 X1 N1).length ≤ 60000 + 1500 * (j + 1) := len_step _ _ _ _ _ (doesL_len _ _ _ _ _ HNN1.out) Hhla.out
                  clear Hhla
                  have Hhla := Lib.hid hlen; clear hlen
                  go_wp2_with fail
                all_goals
                  obtain ⟨b0, b1, b2, -, ⟨x1, y1⟩, -, -⟩ := HI.out.swap
                  obtain ⟨⟨k0, k1, k2, k3⟩, -, -, -, -⟩ := box4 b1
                  obtain ⟨ad2, o2, rfl, ho2, d0, d1, d2, d3⟩ := HO2.out.at j hj2
                  have d0 := cell_below d0 HI.out.2.2.2.2.2.2
                  have d1 := cell_below d1 HI.out.2.2.2.2.2.2
                  have d2 := cell_below d2 HI.out.2.2.2.2.2.2
                  have d3 := cell_below d3 HI.out.2.2.2.2.2.2
                  have hoN := HN2.out j o2 ho2
                  have HOJ2 := Lib.hid ho2; clear ho2
                  obtain ⟨D2, I2, X2, N2⟩ := o2
                  have hNN2 : N2 ≤ 1500 := hoN
                  have HNN2 := Lib.hid hNN2; clear hNN2 hoN
                  have HD2 := Lib.hid (fun V (hw : Below w61.heap.size w61 V) => does_c _ _ _ lb D2 I2 X2 N2 V (x1.below hw) (y1.below hw) (by have := HNN2.out; omega) (by have := Hhlb.out; omega))
                  have HB12 := Lib.hid b1; clear b0 b1 b2 x1 y1
                  go_region_with (first
                    | (go_at_call 19; (with_reducible refine (HD2.out _ (Below.refl _ _).drew).mono ?_); rintro e w52 ⟨v, rfl, ⟨u, s, rfl, hV5, hS5⟩, hb5⟩; obtain ⟨n5, L5, p5, A5, m5, c5, rfl⟩ := vrep_form hV5; obtain ⟨A6, n6, c6, rfl⟩ := hS5.form; have HV5 := Lib.hid hV5; have HS5 := Lib.hid hS5; clear hV5 hS5; have hb5' : Below w61.heap.size w61 w52 := below_trans (w1 := w61.drew) (Below.refl _ _).drew hb5; have B5 := blk_below HB12.out hb5'; obtain ⟨⟨k0, k1, k2, k3⟩, f0, f1, f2, f3⟩ := box4 B5; clear B5)
                    | fail)
                  all_goals
                    generalize hW6 : (((w52.setCell ⟨gb, 0, none⟩ (.int .i64 n5)).setCell ⟨gb, 1, none⟩ (.int .i64 L5)).setCell ⟨gb, 2, none⟩ (.pointer p5)).setCell ⟨gb, 3, none⟩ (.slice A5 m5 c5) = w62
                    have hI6 := BrS.stored HI.out.swap (by omega) (by omega) (by have := hw2.out; omega) hb5' n5 L5 p5 A5 m5 c5 _ _ HV5.out HS5.out
                    rw [show put4w w52 gb (.int .i64 n5) (.int .i64 L5) (.pointer p5) (.slice A5 m5 c5) = w62 from hW6] at hI6
                    clear hW6 HV5 HS5 HD2 HB12 hb5 hb5' k0 k1 k2 k3 f0 f1 f2 f3 d0 d1 d2 d3
                    clear HI
                    have HI := Lib.hid hI6.swap; clear hI6
                    have hlen : (doesL lb D2 I2 X2 N2).length ≤ 60000 + 1500 * (j + 1) := len_step _ _ _ _ _ (doesL_len _ _ _ _ _ HNN2.out) Hhlb.out
                    clear Hhlb
                    have Hhlb := Lib.hid hlen; clear hlen
                    go_wp2_with fail
                all_goals
                  go_roundg k
                  case measure => omega
                  case rel =>
                    show BrI _ _ _ _ _ _ _ _ _ _ _ _ _
                    exact ⟨j + 1, _, _, _, _, _, _, _, _, _, _, _, _, _, _, by first | rfl | (push_cast; rfl), by omega, Hhla.out, Hhlb.out, HI.out⟩
              · skip
                have hj1I : (one.length : Int) ≤ (j : Int) := by omega
                have hj2I : (j : Int) < (two.length : Int) := by omega
                have hla2 : la.length ≤ 60000 + 1500 * (j + 1) := len_step _ _ _ _ _ (Nat.le_add_right _ _) Hhla.out
                clear Hhla
                have Hhla := Lib.hid hla2; clear hla2
                go_wp2_with fail
                obtain ⟨b0, b1, b2, -, ⟨x1, y1⟩, -, -⟩ := HI.out.swap
                obtain ⟨⟨k0, k1, k2, k3⟩, -, -, -, -⟩ := box4 b1
                obtain ⟨ad2, o2, rfl, ho2, d0, d1, d2, d3⟩ := HO2.out.at j hj2
                have d0 := cell_below d0 HI.out.2.2.2.2.2.2
                have d1 := cell_below d1 HI.out.2.2.2.2.2.2
                have d2 := cell_below d2 HI.out.2.2.2.2.2.2
                have d3 := cell_below d3 HI.out.2.2.2.2.2.2
                have hoN := HN2.out j o2 ho2
                have HOJ2 := Lib.hid ho2; clear ho2
                obtain ⟨D2, I2, X2, N2⟩ := o2
                have hNN2 : N2 ≤ 1500 := hoN
                have HNN2 := Lib.hid hNN2; clear hNN2 hoN
                have HD2 := Lib.hid (fun V (hw : Below wr.heap.size wr V) => does_c _ _ _ lb D2 I2 X2 N2 V (x1.below hw) (y1.below hw) (by have := HNN2.out; omega) (by have := Hhlb.out; omega))
                have HB12 := Lib.hid b1; clear b0 b1 b2 x1 y1
                go_region_with (first
                  | (go_at_call 19; (with_reducible refine (HD2.out _ (Below.refl _ _).drew).mono ?_); rintro e w52 ⟨v, rfl, ⟨u, s, rfl, hV5, hS5⟩, hb5⟩; obtain ⟨n5, L5, p5, A5, m5, c5, rfl⟩ := vrep_form hV5; obtain ⟨A6, n6, c6, rfl⟩ := hS5.form; have HV5 := Lib.hid hV5; have HS5 := Lib.hid hS5; clear hV5 hS5; have hb5' : Below wr.heap.size wr w52 := below_trans (w1 := wr.drew) (Below.refl _ _).drew hb5; have B5 := blk_below HB12.out hb5'; obtain ⟨⟨k0, k1, k2, k3⟩, f0, f1, f2, f3⟩ := box4 B5; clear B5)
                  | fail)
                all_goals
                  generalize hW6 : (((w52.setCell ⟨gb, 0, none⟩ (.int .i64 n5)).setCell ⟨gb, 1, none⟩ (.int .i64 L5)).setCell ⟨gb, 2, none⟩ (.pointer p5)).setCell ⟨gb, 3, none⟩ (.slice A5 m5 c5) = w62
                  have hI6 := BrS.stored HI.out.swap (by omega) (by omega) (by have := hw2.out; omega) hb5' n5 L5 p5 A5 m5 c5 _ _ HV5.out HS5.out
                  rw [show put4w w52 gb (.int .i64 n5) (.int .i64 L5) (.pointer p5) (.slice A5 m5 c5) = w62 from hW6] at hI6
                  clear hW6 HV5 HS5 HD2 HB12 hb5 hb5' k0 k1 k2 k3 f0 f1 f2 f3 d0 d1 d2 d3
                  clear HI
                  have HI := Lib.hid hI6.swap; clear hI6
                  have hlen : (doesL lb D2 I2 X2 N2).length ≤ 60000 + 1500 * (j + 1) := len_step _ _ _ _ _ (doesL_len _ _ _ _ _ HNN2.out) Hhlb.out
                  clear Hhlb
                  have Hhlb := Lib.hid hlen; clear hlen
                  go_wp2_with fail
                all_goals
                  go_roundg k
                  case measure => omega
                  case rel =>
                    show BrI _ _ _ _ _ _ _ _ _ _ _ _ _
                    exact ⟨j + 1, _, _, _, _, _, _, _, _, _, _, _, _, _, _, by first | rfl | (push_cast; rfl), by omega, Hhla.out, Hhlb.out, HI.out⟩
        · have hgeI : (two.length : Int) ≤ (one.length : Int) := by omega
          go_wp2_with fail
          go_loopg [13, 14, 59] one.length (fun k v13 v14 v59 wr => Aside (BrI W w2.heap.size ga gb (vec n L p (.slice A m c)) (.slice Ar nr cr) l one.length k v13 v14 v59 wr))
          case atStart =>
            show BrI _ _ _ _ _ _ _ _ _ _ _ _ _
            exact ⟨0, l, l, _, _, _, _, _, _, _, _, _, _, _, _, rfl, by omega, by omega, by omega, HI.out⟩
          case round =>
            clear HI
            obtain ⟨j, la, lb, na, La, pa, Aa, ma, ca, nb, Lb, pb, Ab, mb, cb, rfl, hj, hla, hlb, hI⟩ := hrel.out
            clear hrel
            have HI := Lib.hid hI; clear hI
            have Hhla := Lib.hid hla; clear hla
            have Hhlb := Lib.hid hlb; clear hlb
            obtain ⟨Asa, nsa, csa, rfl⟩ := HI.out.2.2.2.2.1.2.form
            obtain ⟨Asb, nsb, csb, rfl⟩ := HI.out.2.2.2.2.2.1.2.form
            cases gk with
            | zero =>
              obtain ⟨b0, b1, b2, ⟨x0, y0⟩, ⟨x1, y1⟩, ⟨x2, y2⟩, hB⟩ := HI.out
              obtain ⟨⟨k0, k1, k2, k3⟩, -, -, -, -⟩ := box4 b1
              have HSA := Lib.hid (fun V (hw : Below wr.heap.size wr V) => same_c _ _ _ _ la V (x1.below hw) (y1.below hw) (by have := Hhla.out; omega))
              have HSB := Lib.hid (fun V (hw : Below wr.heap.size wr V) => same_c _ _ _ _ lb V (x2.below hw) (y2.below hw) (by have := Hhlb.out; omega))
              have HSC := Lib.hid (fun V (hw : Below wr.heap.size wr V) => same_c _ _ _ _ l V (x0.below hw) (y0.below hw) (by omega))
              clear x0 y0 x1 y1 x2 y2
              have HB0 := Lib.hid b0; clear b0
              have HB2 := Lib.hid b2; clear b2 b1
              have hjT : (one.length : Int) ≤ (j : Int) := by omega
              go_wp2_with (first
                | (go_at_call 22; ((with_reducible refine (HSA.out _ (Below.refl _ _)).mono ?_); rintro e wx ⟨v, rfl, rfl, hbx⟩; clear HSA; obtain ⟨⟨k0, k1, k2, k3⟩, -, -, -, -⟩ := box4 (blk_below HB2.out hbx)))
                | (go_at_call 22; ((with_reducible refine (HSB.out _ hbx).mono ?_); rintro e wy ⟨v, rfl, rfl, hby⟩; clear HSB; have hbxy := below_trans hbx hby; obtain ⟨⟨k0, k1, k2, k3⟩, -, -, -, -⟩ := box4 (blk_below HB0.out hbxy)))
                | (go_at_call 22; ((with_reducible refine (HSC.out _ hbxy).mono ?_); rintro e wz ⟨v, rfl, rfl, hbz⟩; clear HSC; have hbz2 := below_trans hbxy hbz)))
              go_returns
              exact ⟨rfl, below_trans hB hbz2⟩
            | succ k =>
              have hjI : (j : Int) < (one.length : Int) := by omega
              have hj1 : j < one.length := by omega
              by_cases hj2 : j < two.length
              · skip
                have hj1I : (j : Int) < (one.length : Int) := by omega
                have hj2I : (j : Int) < (two.length : Int) := by omega
                go_wp2_with fail
                obtain ⟨b0, b1, b2, -, ⟨x1, y1⟩, -, -⟩ := HI.out
                obtain ⟨⟨k0, k1, k2, k3⟩, -, -, -, -⟩ := box4 b1
                obtain ⟨ad1, o1, rfl, ho1, d0, d1, d2, d3⟩ := HO1.out.at j hj1
                have d0 := cell_below d0 HI.out.2.2.2.2.2.2
                have d1 := cell_below d1 HI.out.2.2.2.2.2.2
                have d2 := cell_below d2 HI.out.2.2.2.2.2.2
                have d3 := cell_below d3 HI.out.2.2.2.2.2.2
                have hoN := HN1.out j o1 ho1
                have HOJ1 := Lib.hid ho1; clear ho1
                obtain ⟨D1, I1, X1, N1⟩ := o1
                have hNN1 : N1 ≤ 1500 := hoN
                have HNN1 := Lib.hid hNN1; clear hNN1 hoN
                have HD1 := Lib.hid (fun V (hw : Below wr.heap.size wr V) => does_c _ _ _ la D1 I1 X1 N1 V (x1.below hw) (y1.below hw) (by have := HNN1.out; omega) (by have := Hhla.out; omega))
                have HB11 := Lib.hid b1; clear b0 b1 b2 x1 y1
                go_region_with (first
                  | (go_at_call 19; (with_reducible refine (HD1.out _ (Below.refl _ _).drew).mono ?_); rintro e w51 ⟨v, rfl, ⟨u, s, rfl, hV5, hS5⟩, hb5⟩; obtain ⟨n5, L5, p5, A5, m5, c5, rfl⟩ := vrep_form hV5; obtain ⟨A6, n6, c6, rfl⟩ := hS5.form; have HV5 := Lib.hid hV5; have HS5 := Lib.hid hS5; clear hV5 hS5; have hb5' : Below wr.heap.size wr w51 := below_trans (w1 := wr.drew) (Below.refl _ _).drew hb5; have B5 := blk_below HB11.out hb5'; obtain ⟨⟨k0, k1, k2, k3⟩, f0, f1, f2, f3⟩ := box4 B5; clear B5)
                  | fail)
                all_goals
                  generalize hW6 : (((w51.setCell ⟨ga, 0, none⟩ (.int .i64 n5)).setCell ⟨ga, 1, none⟩ (.int .i64 L5)).setCell ⟨ga, 2, none⟩ (.pointer p5)).setCell ⟨ga, 3, none⟩ (.slice A5 m5 c5) = w61
                  have hI6 := BrS.stored HI.out (by omega) (by omega) (by have := hw2.out; omega) hb5' n5 L5 p5 A5 m5 c5 _ _ HV5.out HS5.out
                  rw [show put4w w51 ga (.int .i64 n5) (.int .i64 L5) (.pointer p5) (.slice A5 m5 c5) = w61 from hW6] at hI6
                  clear hW6 HV5 HS5 HD1 HB11 hb5 hb5' k0 k1 k2 k3 f0 f1 f2 f3 d0 d1 d2 d3
                  clear HI
                  have HI := Lib.hid hI6; clear hI6
                  have hlen : (doesL la D1 I1 X1 N1).length ≤ 60000 + 1500 * (j + 1) := len_step _ _ _ _ _ (doesL_len _ _ _ _ _ HNN1.out) Hhla.out
                  clear Hhla
                  have Hhla := Lib.hid hlen; clear hlen
                  go_wp2_with fail
                all_goals
                  obtain ⟨b0, b1, b2, -, ⟨x1, y1⟩, -, -⟩ := HI.out.swap
                  obtain ⟨⟨k0, k1, k2, k3⟩, -, -, -, -⟩ := box4 b1
                  obtain ⟨ad2, o2, rfl, ho2, d0, d1, d2, d3⟩ := HO2.out.at j hj2
                  have d0 := cell_below d0 HI.out.2.2.2.2.2.2
                  have d1 := cell_below d1 HI.out.2.2.2.2.2.2
                  have d2 := cell_below d2 HI.out.2.2.2.2.2.2
                  have d3 := cell_below d3 HI.out.2.2.2.2.2.2
                  have hoN := HN2.out j o2 ho2
                  have HOJ2 := Lib.hid ho2; clear ho2
                  obtain ⟨D2, I2, X2, N2⟩ := o2
                  have hNN2 : N2 ≤ 1500 := hoN
                  have HNN2 := Lib.hid hNN2; clear hNN2 hoN
                  have HD2 := Lib.hid (fun V (hw : Below w61.heap.size w61 V) => does_c _ _ _ lb D2 I2 X2 N2 V (x1.below hw) (y1.below hw) (by have := HNN2.out; omega) (by have := Hhlb.out; omega))
                  have HB12 := Lib.hid b1; clear b0 b1 b2 x1 y1
                  go_region_with (first
                    | (go_at_call 19; (with_reducible refine (HD2.out _ (Below.refl _ _).drew).mono ?_); rintro e w52 ⟨v, rfl, ⟨u, s, rfl, hV5, hS5⟩, hb5⟩; obtain ⟨n5, L5, p5, A5, m5, c5, rfl⟩ := vrep_form hV5; obtain ⟨A6, n6, c6, rfl⟩ := hS5.form; have HV5 := Lib.hid hV5; have HS5 := Lib.hid hS5; clear hV5 hS5; have hb5' : Below w61.heap.size w61 w52 := below_trans (w1 := w61.drew) (Below.refl _ _).drew hb5; have B5 := blk_below HB12.out hb5'; obtain ⟨⟨k0, k1, k2, k3⟩, f0, f1, f2, f3⟩ := box4 B5; clear B5)
                    | fail)
                  all_goals
                    generalize hW6 : (((w52.setCell ⟨gb, 0, none⟩ (.int .i64 n5)).setCell ⟨gb, 1, none⟩ (.int .i64 L5)).setCell ⟨gb, 2, none⟩ (.pointer p5)).setCell ⟨gb, 3, none⟩ (.slice A5 m5 c5) = w62
                    have hI6 := BrS.stored HI.out.swap (by omega) (by omega) (by have := hw2.out; omega) hb5' n5 L5 p5 A5 m5 c5 _ _ HV5.out HS5.out
                    rw [show put4w w52 gb (.int .i64 n5) (.int .i64 L5) (.pointer p5) (.slice A5 m5 c5) = w62 from hW6] at hI6
                    clear hW6 HV5 HS5 HD2 HB12 hb5 hb5' k0 k1 k2 k3 f0 f1 f2 f3 d0 d1 d2 d3
                    clear HI
                    have HI := Lib.hid hI6.swap; clear hI6
                    have hlen : (doesL lb D2 I2 X2 N2).length ≤ 60000 + 1500 * (j + 1) := len_step _ _ _ _ _ (doesL_len _ _ _ _ _ HNN2.out) Hhlb.out
                    clear Hhlb
                    have Hhlb := Lib.hid hlen; clear hlen
                    go_wp2_with fail
                all_goals
                  go_roundg k
                  case measure => omega
                  case rel =>
                    show BrI _ _ _ _ _ _ _ _ _ _ _ _ _
                    exact ⟨j + 1, _, _, _, _, _, _, _, _, _, _, _, _, _, _, by first | rfl | (push_cast; rfl), by omega, Hhla.out, Hhlb.out, HI.out⟩
              · skip
                have hj1I : (j : Int) < (one.length : Int) := by omega
                have hj2I : (two.length : Int) ≤ (j : Int) := by omega
                have hlb2 : lb.length ≤ 60000 + 1500 * (j + 1) := len_step _ _ _ _ _ (Nat.le_add_right _ _) Hhlb.out
                clear Hhlb
                have Hhlb := Lib.hid hlb2; clear hlb2
                go_wp2_with fail
                obtain ⟨b0, b1, b2, -, ⟨x1, y1⟩, -, -⟩ := HI.out
                obtain ⟨⟨k0, k1, k2, k3⟩, -, -, -, -⟩ := box4 b1
                obtain ⟨ad1, o1, rfl, ho1, d0, d1, d2, d3⟩ := HO1.out.at j hj1
                have d0 := cell_below d0 HI.out.2.2.2.2.2.2
                have d1 := cell_below d1 HI.out.2.2.2.2.2.2
                have d2 := cell_below d2 HI.out.2.2.2.2.2.2
                have d3 := cell_below d3 HI.out.2.2.2.2.2.2
                have hoN := HN1.out j o1 ho1
                have HOJ1 := Lib.hid ho1; clear ho1
                obtain ⟨D1, I1, X1, N1⟩ := o1
                have hNN1 : N1 ≤ 1500 := hoN
                have HNN1 := Lib.hid hNN1; clear hNN1 hoN
                have HD1 := Lib.hid (fun V (hw : Below wr.heap.size wr V) => does_c _ _ _ la D1 I1 X1 N1 V (x1.below hw) (y1.below hw) (by have := HNN1.out; omega) (by have := Hhla.out; omega))
                have HB11 := Lib.hid b1; clear b0 b1 b2 x1 y1
                go_region_with (first
                  | (go_at_call 19; (with_reducible refine (HD1.out _ (Below.refl _ _).drew).mono ?_); rintro e w51 ⟨v, rfl, ⟨u, s, rfl, hV5, hS5⟩, hb5⟩; obtain ⟨n5, L5, p5, A5, m5, c5, rfl⟩ := vrep_form hV5; obtain ⟨A6, n6, c6, rfl⟩ := hS5.form; have HV5 := Lib.hid hV5; have HS5 := Lib.hid hS5; clear hV5 hS5; have hb5' : Below wr.heap.size wr w51 := below_trans (w1 := wr.drew) (Below.refl _ _).drew hb5; have B5 := blk_below HB11.out hb5'; obtain ⟨⟨k0, k1, k2, k3⟩, f0, f1, f2, f3⟩ := box4 B5; clear B5)
                  | fail)
                all_goals
                  generalize hW6 : (((w51.setCell ⟨ga, 0, none⟩ (.int .i64 n5)).setCell ⟨ga, 1, none⟩ (.int .i64 L5)).setCell ⟨ga, 2, none⟩ (.pointer p5)).setCell ⟨ga, 3, none⟩ (.slice A5 m5 c5) = w61
                  have hI6 := BrS.stored HI.out (by omega) (by omega) (by have := hw2.out; omega) hb5' n5 L5 p5 A5 m5 c5 _ _ HV5.out HS5.out
                  rw [show put4w w51 ga (.int .i64 n5) (.int .i64 L5) (.pointer p5) (.slice A5 m5 c5) = w61 from hW6] at hI6
                  clear hW6 HV5 HS5 HD1 HB11 hb5 hb5' k0 k1 k2 k3 f0 f1 f2 f3 d0 d1 d2 d3
                  clear HI
                  have HI := Lib.hid hI6; clear hI6
                  have hlen : (doesL la D1 I1 X1 N1).length ≤ 60000 + 1500 * (j + 1) := len_step _ _ _ _ _ (doesL_len _ _ _ _ _ HNN1.out) Hhla.out
                  clear Hhla
                  have Hhla := Lib.hid hlen; clear hlen
                  go_wp2_with fail
                all_goals
                  go_roundg k
                  case measure => omega
                  case rel =>
                    show BrI _ _ _ _ _ _ _ _ _ _ _ _ _
                    exact ⟨j + 1, _, _, _, _, _, _, _, _, _, _, _, _, _, _, by first | rfl | (push_cast; rfl), by omega, Hhla.out, Hhlb.out, HI.out⟩

theorem br_walk (v0 : Value) (o0 : List S43) (v1 : Value) (o1 : List S43) (v2 : Value) (o2 : List S43) (W : World) (h0 : OpsV W v0 o0) (h1 : OpsV W v1 o1) (h2 : OpsV W v2 o2) :
    Calls Try.prog 6 #[v0, v1, v2] W fun e W' => e = .returned (.bool true) ∧ Below W.heap.size W W' := by
  obtain ⟨r0, a0, b0⟩ := few_c W v0 o0 h0
  obtain ⟨r1, a1, b1⟩ := few_c W v1 o1 h1
  obtain ⟨r2, a2, b2⟩ := few_c W v2 o2 h2
  cases r0 with
  | false => exact br_out0 v0 v1 v2 W b0
  | true =>
    cases r1 with
    | false => exact br_out1 v0 v1 v2 W b0 b1
    | true =>
      cases r2 with
      | false => exact br_out2 v0 v1 v2 W b0 b1 b2
      | true => exact br_in v0 v1 v2 o0 o1 o2 W h0 (a0 rfl).1 (a0 rfl).2 h1 (a1 rfl).1 (a1 rfl).2 h2 (a2 rfl).1 (a2 rfl).2 b0 b1 b2
end Go.Proofs.Ytmoakgacffjblaa.Pv
