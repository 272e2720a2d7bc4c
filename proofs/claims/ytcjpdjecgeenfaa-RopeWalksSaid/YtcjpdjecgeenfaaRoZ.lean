/- A rope is gone through from the place 0 on, as far as one goes: the law's walk. -/
import Derived.RangeFuncNested
import Derived.RangeFuncBound
import Derived.RangeFuncCalls
import Derived.RangeFuncLeaves
import Derived.Shelf.Abstract
import Derived.Shelf.RegionOpen
import Derived.WalkKit
import Derived.OwnWalkIn
import Derived.TacticsInMore
import Derived.LoopNIn
import Derived.LoopIn
import Derived.Maps.AppendAt
import Derived.RangeFuncWrites
import Derived.RangeFuncBox
import Derived.Sort.LoopGhostIn
import Derived.Test.YtcjpdjecgeenfaaRoY
set_option linter.unusedVariables false
set_option linter.unusedSimpArgs false
namespace Go.Proofs.Ytcjpdjecgeenfaa.Ro
open Go Go.RowKit Go.Shelf Go.Proofs.Ytcjpdjecgeenfaa.Mem Go.Proofs.YtcjpdjecgeenfaaW.PrintWords

attribute [local go_sem] Oper.semAt_some

theorem own_form {base : Nat} {w : World} {A : Option Addr} {n c : Nat} {ys : List Int} (h : Own base w (.slice A n c) ys) : n = ys.length ∧ (0 < ys.length → ∃ g, A = some ⟨g, 0, none⟩) := by
  rcases h.2 with ⟨h1, h0⟩ | ⟨g, cap, cur, h1, _⟩
  · injection h1 with h1 h2 h3
    exact ⟨by omega, fun hp => by omega⟩
  · injection h1 with h1 h2 h3
    exact ⟨h2, fun _ => ⟨g, h1⟩⟩

/-- what a law answers -/
def Tru (w : World) (e : Ending) (w' : World) : Prop := e = .returned (.bool true) ∧ Below w.heap.size w w'

theorem list_v (K : Nat → Prop) (v : Value) (l : List Int) (w : World) (h : RopeV K w v l) (hl : l.length ≤ 1000000) :
    Calls Try.prog 12 #[v] w (Ret (fun u w' => Own w.heap.size w' u l) w) := by
  obtain ⟨p, rfl, h⟩ := h
  exact list_o K p l w h hl

/-- the function's boxes: how far, the answer, the vector, the sequence's, the count -/
def WkM (w : World) (g : Nat) (most : Int) (v : Value) (l : List Int) (kk : Int) (W : World) : Prop :=
  W.heap[w.heap.size]? = some (.cells #[.int .i64 most] 3 (0, 0)) ∧ W.heap[w.heap.size + 1]? = some (.cells #[.bool false] 4 (0, 0)) ∧ W.heap[g]? = some (.cells v.cells RT (0, 0)) ∧ W.heap[g + 1]? = some (.cells v.cells RT (0, 0)) ∧
  W.heap[g + 2]? = some (.cells #[.int .i64 kk] 3 (0, 0)) ∧ RopeV (fun b => b < g) W v l ∧ Below w.heap.size w W

theorem WkM.keep {w : World} {g : Nat} {most : Int} {v : Value} {l : List Int} {kk : Int} {W W' : World} (h : WkM w g most v l kk W) (hg : w.heap.size + 1 < g) (hk : ∀ b, b < g + 3 → W'.heap[b]? = W.heap[b]?) (hB : Below w.heap.size w W') : WkM w g most v l kk W' := by
  obtain ⟨h1, h2, h3, h4, h5, h6, _⟩ := h
  exact ⟨(hk _ (by omega)).trans h1, (hk _ (by omega)).trans h2, (hk _ (by omega)).trans h3, (hk _ (by omega)).trans h4, (hk _ (by omega)).trans h5, h6.keep (fun _ h => h) (fun b hb _ => hk b (by have h' : b < g := hb; omega)), hB⟩

theorem WkM.below {w : World} {g : Nat} {most : Int} {v : Value} {l : List Int} {kk : Int} {W W' : World} (h : WkM w g most v l kk W) (hg : w.heap.size + 1 < g) (hb : Below W.heap.size W W') : WkM w g most v l kk W' :=
  h.keep hg (fun b hlt => hb.block b (by have := blk_lt h.2.2.2.2.1; omega)) (below_trans h.2.2.2.2.2.2 hb)

theorem WkM.count {w : World} {g : Nat} {most : Int} {v : Value} {l : List Int} {kk : Int} {W : World} (h : WkM w g most v l kk W) (hg : w.heap.size + 1 < g) (k' : Int) : WkM w g most v l k' (W.setCell ⟨g + 2, 0, none⟩ (.int .i64 k')) := by
  obtain ⟨h1, h2, h3, h4, h5, h6, h7⟩ := h
  exact ⟨blk_far h1 (by show _ ≠ g + 2; omega) _, blk_far h2 (by show _ ≠ g + 2; omega) _, blk_far h3 (by show _ ≠ g + 2; omega) _, blk_far h4 (by show _ ≠ g + 2; omega) _, blk_put h5 0 _ rfl, h6.far _ _ _ (fun h => by have h' : g + 2 < g := h; omega), h7.setCell (by show _ ≤ g + 2; omega) _⟩

theorem keepsFrom_set {B : Nat} (W : World) (a : Addr) (u : Value) {cs : Array Value} {t : TypeId} (h : W.heap[a.block]? = some (.cells cs t (0, 0))) : KeepsFrom B W (W.setCell a u) := by
  refine ⟨by rw [World.size_setCell]; exact Nat.le_refl _, fun k o _ hk ho => ?_⟩
  have hne : k ≠ a.block := by
    rintro rfl
    rw [h] at hk
    injection hk with hk
    subst hk
    cases ho
  rw [Below.heap_setCell _ _ _ _ hne]
  exact hk

theorem idx_get : ∀ (xs : List Int) (a i : Nat), (idx a xs)[i]? = (xs[i]?).map fun x => (((a + i : Nat) : Int), x)
  | [], a, i => by simp [idx]
  | x :: xs, a, 0 => by simp [idx]
  | x :: xs, a, i + 1 => by
    show (idx (a + 1) xs)[i]? = _
    rw [idx_get xs (a + 1) i]
    simp only [List.getElem?_cons_succ]
    rw [show a + 1 + i = a + (i + 1) by omega]

theorem results_bool {fn : Func} {p : Tmp} (h : fn.results = #[.cell p 4]) (tmps : Array Value) (w : World) (g : Nat) (v : Value) (hp : tmps.getD p undef = .pointer (some ⟨g, 0, none⟩)) (hg : w.heap[g]? = some (.cells #[v] 4 (0, 0))) :
    (results fn tmps).run Try.prog w = .ok v w := by
  have hp' : tmps[p]?.getD undef = .pointer (some ⟨g, 0, none⟩) := by simpa using hp
  have hc := blk_cell hg 0
  simp at hc
  simp [results, h, hp', asAddr, go_sem, hc]

theorem wk_end {w : World} {g : Nat} {most : Int} {v : Value} {l : List Int} {kk : Int} {W : World} (hM : WkM w g most v l kk W) (hg : w.heap.size + 1 < g) {D : Nat} (hD : g + 3 ≤ D) (hK : W.heap[D]? = some (.deferred (some []))) :
    (W.setCell ⟨w.heap.size + 1, 0, none⟩ (.bool true)).heap[D]? = some (.deferred (some [])) ∧ ((W.setCell ⟨w.heap.size + 1, 0, none⟩ (.bool true)).putObj D (.deferred none)).heap[w.heap.size + 1]? = some (.cells #[.bool true] 4 (0, 0)) ∧ Below w.heap.size w ((W.setCell ⟨w.heap.size + 1, 0, none⟩ (.bool true)).putObj D (.deferred none)) := by
  have h1 : (W.setCell ⟨w.heap.size + 1, 0, none⟩ (.bool true)).heap[D]? = some (.deferred (some [])) := (Below.heap_setCell _ _ _ _ (by show D ≠ w.heap.size + 1; omega)).trans hK
  have h2 : (W.setCell ⟨w.heap.size + 1, 0, none⟩ (.bool true)).heap[w.heap.size + 1]? = some (.cells #[.bool true] 4 (0, 0)) := blk_put hM.2.1 0 _ rfl
  have hne : D ≠ w.heap.size + 1 := by omega
  refine ⟨h1, ?_, ?_⟩
  · rw [← h2]; simp [World.putObj, Array.getElem?_setIfInBounds_ne hne]
  · exact (hM.2.2.2.2.2.2.setCell (by show _ ≤ w.heap.size + 1; omega) _).trans (belowK_b (w := w) (Nat.le_refl _) _ D _ _ (by omega) h1 rfl rfl)

/-- the loop that writes over the list that came of the vector -/
def WkL (w : World) (g : Nat) (most : Int) (v : Value) (l : List Int) (kk : Int) (base : Nat) (own : Value) (D T k : Nat) (v51 : Value) (wr : World) : Prop :=
  ∃ (j : Nat) (ys : List Int), v51 = .int .i64 (j : Int) ∧ j + k = T ∧ ys.length = T ∧ Own base wr own ys ∧ WkM w g most v l kk wr ∧ wr.heap[D]? = some (.deferred (some []))

/-- before the next round -/
def WkI (w : World) (g : Nat) (most : Int) (v : Value) (l : List Int) (pre : List (Int × Int)) (W : World) : Prop := WkM w g most v l (pre.length : Int) W ∧ ∀ q : Nat, 1 ≤ q → q ≤ pre.length → (q : Int) ≠ most
/-- where a round leaves the loop -/
def WkX (w : World) (g : Nat) (most : Int) (v : Value) (l : List Int) (c : Code) (xs : List (Int × Int)) (W : World) : Prop :=
  (c = .ret ∧ ∃ pre x, xs = pre ++ [x] ∧ ¬ (x.1 = (pre.length : Int) ∧ x.2 = wrap64 (5 + x.1))) ∨ (c = .exit 0 ∧ WkM w g most v l (xs.length : Int) W ∧ (xs.length : Int) = most ∧ 1 ≤ xs.length)

theorem wkM_own (w : World) (g : Nat) (most : Int) (v : Value) (l : List Int) {β : Type} (f : β → Int) (hg : w.heap.size + 1 < g) : OwnFrom (g + 3) (fun (s : β) W => WkM w g most v l (f s) W) := by
  intro s X Y row hs hgr hr
  refine hs.keep hg (fun b hb => hgr.block b (by have := blk_lt hs.2.2.2.2.1; omega) fun e => by have := (hr _ e.symm).1; omega) ?_
  have h7 := hs.2.2.2.2.2.2
  exact h7.grown hgr h7.size fun k hk => by have := (hr k hk).1; omega

theorem wkI_own (w : World) (g : Nat) (most : Int) (v : Value) (l : List Int) (hg : w.heap.size + 1 < g) : OwnFrom (g + 3) (WkI w g most v l) :=
  fun s X Y row hs hgr hr => ⟨wkM_own w g most v l (fun pre : List (Int × Int) => (pre.length : Int)) hg s X Y row hs.1 hgr hr, hs.2⟩
theorem wkX_own (w : World) (g : Nat) (most : Int) (v : Value) (l : List Int) (hg : w.heap.size + 1 < g) (c : Code) : OwnFrom (g + 3) (WkX w g most v l c) :=
  fun s X Y row hs hgr hr => hs.imp id fun h => ⟨h.1, wkM_own w g most v l (fun pre : List (Int × Int) => (pre.length : Int)) hg s X Y row h.2.1 hgr hr, h.2.2⟩

set_option maxRecDepth 100000 in
set_option maxHeartbeats 4000000 in
theorem walks_f (N : Nat) (most : Int) (w : World) (hN : N ≤ 2500) (n : Nat) (hn : 3 ≤ n) :
    CallsIn Fence.wide n Try.prog 3 #[.int .i64 (N : Int), .int .i64 most] w (Tru w) := by
  have h1 : 1 ≤ n := by omega
  have hNN : (N : Int) ≤ 2500 := by omega
  have HN := Lib.hid hN; clear hN
  have hfn : ∀ (B : Nat) (W : World), Sem.run Try.prog (binOp BinOp.eql 30 (Value.func (Fn.func 29) #[] #[Value.pointer (some ⟨B, 0, none⟩)]) Value.nilFunc) W = .ok (.bool false) W := fun B W => by kernel_rfl
  refine callsIn_of_wp_marks Try.func3 rfl trivial ?_ rfl
  simp only [Try.ntmps3, List.size_toArray, List.length_cons, List.length_nil, Nat.reduceAdd, Nat.reduceSub, Array.replicate_succ, Array.replicate_zero, List.push_toArray, List.append_toArray, List.nil_append, List.cons_append]
  gi_wp2_with fail
  refine ⟨trivial, (callsIn_wide.2 (live_c _)).mono ?_⟩
  rintro e w1 ⟨v, rfl, rfl, hb1⟩
  have hB1 : Below w.heap.size w w1 := below_trans (by go_grown) hb1
  have HB3 := Lib.hid (blk_below (blk_alloc (blk_new w _) _) hb1)
  have HB4 := Lib.hid (blk_below (heap_k1 w _ _) hb1)
  clear hb1
  gi_wp2_with fail
  refine ⟨trivial, (callsIn_wide.2 (run_c 5 (N : Int) (by omega) _)).mono ?_⟩
  rintro e w2 ⟨v, rfl, hO2, hb2⟩
  obtain ⟨A2, n2, c2, rfl⟩ := hO2.slv.form
  have hB2 := below_trans hB1 hb2
  have HO2 := Lib.hid hO2; clear hO2
  gi_wp2_with fail
  refine ⟨trivial, (callsIn_wide.2 (of_c _ _ (runL 5 (N : Int).toNat) _ HO2.out.slv (by rw [runL_length]; have := HN.out; omega))).mono ?_⟩
  rintro e w3 ⟨v, rfl, hV3, hb3⟩
  obtain ⟨p3, rfl, hT3⟩ := id hV3
  have hB3 := below_trans hB2 hb3
  have HV3 := Lib.hid hV3.bound; clear hV3
  have HT3 := Lib.hid hT3.bound; clear hT3
  have HB33 := Lib.hid (blk_below (blk_below HB3.out hb2) hb3)
  have HB43 := Lib.hid (blk_below (blk_below HB4.out hb2) hb3)
  clear HB3 HB4 hb2 hb3 HO2 hB1 hB2
  gi_wp2_with fail
  refine ⟨trivial, (callsIn_wide.2 (all_in p3 _)).mono ?_⟩
  rintro e w' ⟨rfl, rfl⟩
  gi_wp2_with fail
  obtain ⟨W4, hW4⟩ : ∃ W4, (((w3.alloc (.cells #[.pointer p3] RT)).alloc (.cells #[.pointer p3] RT)).alloc (.cells #[.int .i64 0] 3)) = W4 := ⟨_, rfl⟩
  have hs4 : W4.heap.size = w3.heap.size + 3 := by rw [← hW4]; simp
  have hB34 : Below w3.heap.size w3 W4 := by rw [← hW4]; go_grown
  have hg3 : w.heap.size + 1 < w3.heap.size := blk_lt HB43.out
  have hM4 : WkM w w3.heap.size most (rope p3) (runL 5 (N : Int).toNat) 0 W4 := by
    refine ⟨blk_below HB33.out hB34, blk_below HB43.out hB34, ?_, ?_, ?_, (HV3.out.mono fun b h => h.2).below hB34, below_trans hB3 hB34⟩
    · rw [← hW4]; exact blk_alloc (blk_alloc (blk_new w3 _) _) _
    · rw [← hW4]; exact blk_alloc (heap_k1 w3 _ _) _
    · rw [← hW4]; exact heap_k2 w3 _ _ _
  have hV4 : Tree (fun b => b < w3.heap.size ∨ b = w3.heap.size + 1) W4 p3 (runL 5 (N : Int).toNat) := (HT3.out.keep (fun b h _ => Or.inl h.2) fun b h hlt => hB34.block b hlt)
  have hlt4 : ∀ b, (b < w3.heap.size ∨ b = w3.heap.size + 1) → b < W4.heap.size := fun b h => by omega
  have hlen : (runL 5 (N : Int).toNat).length = N := by rw [runL_length]; omega
  clear HV3 HT3 HB33 HB43 hB3
  refine' wpIn_rangeFunc_ownG rfl h1 (gf := 29) (lb := #[.pointer (some ⟨w3.heap.size + 1, 0, none⟩)]) rfl trivial (enters_of Try.func29 (by kernel_rfl) rfl)
    (all_stops (fun b => b < w3.heap.size ∨ b = w3.heap.size + 1) (w3.heap.size + 1) (n - 1) p3 (runL 5 (N : Int).toNat) W4 hlt4 (Or.inr rfl) hM4.2.2.2.1 hV4 (by rw [hlen]; have := HN.out; omega)) (fun h k => Kept.trans h k) ?kb ?b0 (fun _ => rfl)
    (WkI w w3.heap.size most (rope p3) (runL 5 (N : Int).toNat)) (WkX w w3.heap.size most (rope p3) (runL 5 (N : Int).toNat)) ?hI ?hIx ?h0 _ ?assign ?body ?done ?stop
  case assign =>
    intro l x W K hK
    gi_wp2
    exact hK
  case kb =>
    intro W l o o' hl _ _ _ b hb
    have hne : b ≠ l := by rw [hW4] at hl; have := hlt4 b hb; omega
    simp [World.putObj, Array.getElem?_setIfInBounds_ne (Ne.symm hne)]
  case b0 => rw [hW4]; exact Below.refl _ _
  case hI => rw [hW4, hs4]; exact wkI_own _ _ _ _ _ hg3
  case hIx => rw [hW4, hs4]; exact fun c => wkX_own _ _ _ _ _ hg3 c
  case h0 => rw [hW4]; exact ⟨hM4, fun q h1 h2 => by simp at h2; omega⟩
  case body =>
    rintro l pre x W ⟨hM, hq⟩ hlt
    rw [hlen] at hlt
    obtain ⟨x1, x2⟩ := x
    have hpl : (pre.length : Int) < 2500 := by have := HN.out; omega
    have hp0 : (0 : Int) ≤ (pre.length : Int) := by omega
    obtain ⟨B3, B4, B5, B6, B7, hV, hB⟩ := id hM
    obtain ⟨k3, f3⟩ := box1 B3
    obtain ⟨k4, f4⟩ := box1 B4
    obtain ⟨k7, f7⟩ := box1 B7
    have HM := Lib.hid hM; clear hM B3 B4 B5 B6 B7 hV
    have HQ := Lib.hid hq; clear hq
    by_cases e1 : x1 = (pre.length : Int)
    · subst e1
      by_cases e2 : x2 = 5 + (pre.length : Int)
      · subst e2
        by_cases e3 : (pre.length : Int) + 1 = most
        · subst e3
          gi_wp2
          refine ⟨keepsFrom_set W _ _ HM.out.2.2.2.2.1, Or.inr ⟨rfl, ?_, by rw [List.length_append]; push_cast; rfl, by rw [List.length_append]; simp⟩⟩
          rw [List.length_append]
          exact HM.out.count hg3 _
        · have e3' : ((pre.length : Int) + 1 == most) = false := beq_false_of_ne e3
          gi_wp2
          refine ⟨keepsFrom_set W _ _ HM.out.2.2.2.2.1, fun b hb => Below.heap_setCell _ _ _ _ (by show b ≠ w3.heap.size + 2; have h' : b < w3.heap.size ∨ b = w3.heap.size + 1 := hb; omega), ?_, fun q h1 h2 => ?_⟩
          · rw [List.length_append]
            exact HM.out.count hg3 _
          · rw [List.length_append] at h2
            simp at h2
            by_cases hq : q ≤ pre.length
            · exact HQ.out q h1 hq
            · obtain rfl : q = pre.length + 1 := by omega
              intro e
              exact e3 (by rw [← e]; push_cast; rfl)
      · have e2' : (x2 != 5 + (pre.length : Int)) = true := by simp [e2]
        gi_wp2
        refine ⟨keepsFrom_set W _ _ HM.out.2.1, Or.inl ⟨rfl, pre, _, rfl, fun h => e2 ?_⟩⟩
        have h2 : x2 = wrap64 (5 + (pre.length : Int)) := h.2
        rw [h2, wrap_mid _ (by omega) (by omega)]
    · have e1' : (x1 != (pre.length : Int)) = true := by simp [e1]
      gi_wp2
      exact ⟨keepsFrom_set W _ _ HM.out.2.1, Or.inl ⟨rfl, pre, _, rfl, fun h => e1 h.1⟩⟩
  case done =>
    rintro D zs W hD rfl ⟨hM, hq⟩ hK
    rw [idx_length, hlen] at hM hq
    have hmost : most < 1 ∨ (N : Int) < most := by
      by_cases h : 1 ≤ most ∧ most ≤ N
      · exact absurd (show ((most.toNat : Nat) : Int) = most by omega) (hq most.toNat (by omega) (by omega))
      · omega
    clear hq
    have hD3 : w3.heap.size + 3 ≤ D := by rw [hW4, hs4] at hD; exact hD
    clear hD hlt4 hV4 hM4 hB34 hs4 hlen
    clear hW4
    obtain ⟨B3, B4, B5, B6, B7, hV, hB⟩ := id hM
    obtain ⟨k0, -⟩ := box1 B5
    have HM := Lib.hid hM; clear hM B3 B4 B5 B6 B7 hV hB
    have HK := Lib.hid hK; clear hK
    gi_wp2_with fail
    refine ⟨trivial, (callsIn_wide.2 (list_v _ _ _ W HM.out.2.2.2.2.2.1 (by rw [runL_length]; have := HN.out; omega))).mono ?_⟩
    rintro e w5 ⟨v, rfl, hO5, hb5⟩
    obtain ⟨A5, n5, c5, rfl⟩ := hO5.slv.form
    obtain ⟨hn5, hg5⟩ := own_form hO5
    rw [runL_length, Int.toNat_natCast] at hn5
    subst hn5
    have hM5 := HM.out.below hg3 hb5
    have hK5 := blk_below HK.out hb5
    have hDW : D < W.heap.size := blk_lt HK.out
    have HO5 := Lib.hid hO5; clear hO5 hg5
    have HM5 := Lib.hid hM5; clear hM5
    have HK5 := Lib.hid hK5; clear hK5
    clear k0
    gi_wp2_with fail
    gi_loopg [51] n5 (fun k v51 wr => Aside (WkL w w3.heap.size most (rope p3) (runL 5 ((n5 : Nat) : Int).toNat) ((n5 : Nat) : Int) W.heap.size (.slice A5 n5 c5) D n5 k v51 wr))
    case atStart =>
      show WkL _ _ _ _ _ _ _ _ _ _ _ _ _
      exact ⟨0, runL 5 ((n5 : Nat) : Int).toNat, rfl, by omega, by simp, HO5.out, HM5.out, HK5.out⟩
    case round =>
      clear HO5 HM5 HK5
      obtain ⟨j, ys, rfl, hj, hys, hO, hM, hKr⟩ := hrel.out
      clear hrel
      have HMr := Lib.hid hM; clear hM
      have HKr := Lib.hid hKr; clear hKr
      have HY := Lib.hid hys; clear hys
      cases gk with
      | succ k =>
        obtain ⟨go, rfl⟩ := (own_form hO).2 (by rw [HY.out]; omega)
        have hjn : (j : Int) < (n5 : Int) := by omega
        obtain ⟨y, hy⟩ : ∃ y, ys[j]? = some y := ⟨_, List.getElem?_eq_getElem (by rw [HY.out]; omega)⟩
        have hc : wr.cell? ⟨go, j, none⟩ = some (.int .i64 y) := by
          have := World.ownsRow.cells hO (g := go) (by simp [Value.ownBlock]) j (.int .i64 y) (by simp [hy])
          rwa [add_head] at this
        have hO' : wr.ownsRow W.heap.size 3 1 (.slice (some ⟨go, 0, none⟩) n5 c5) n5 (ints ys) := by have hx := hO; unfold Own at hx; rw [HY.out] at hx; exact hx
        have hf : wr.frozen? ⟨go, j, none⟩ = false := hO'.frozenAt j
        have hgo : W.heap.size ≤ go := own_base hO' go (by simp [Value.ownBlock])
        have HO := Lib.hid hO'; clear hO' hO hy
        gi_wp2
        gi_roundg k
        case measure => omega
        case rel =>
          show WkL _ _ _ _ _ _ _ _ _ _ _ _ _
          have hWg : w3.heap.size + 2 < W.heap.size := blk_lt HM.out.2.2.2.2.1
          refine ⟨j + 1, ys.set j (wrap64 (y + 1)), by first | rfl | (push_cast; rfl), by omega, by rw [List.length_set]; exact HY.out, ?_, HMr.out.keep hg3 (fun b hb => Below.heap_setCell _ _ _ _ (by show b ≠ go; omega)) (HMr.out.2.2.2.2.2.2.setCell (by show _ ≤ go; have := HM.out.2.2.2.2.2.2.size; omega) _), (Below.heap_setCell _ _ _ _ (by show D ≠ go; omega)).trans HKr.out⟩
          have := (HO.out.stored j (.int .i64 (wrap64 (y + 1)))).1
          unfold Own
          rw [List.length_set, HY.out]
          simpa [List.map_set] using this
      | zero =>
        obtain rfl : n5 = j := by omega
        clear hj hO
        obtain ⟨k0, -⟩ := box1 HMr.out.2.2.1
        gi_wp2_with fail
        refine ⟨trivial, (callsIn_wide.2 (list_v _ _ _ wr HMr.out.2.2.2.2.2.1 (by rw [runL_length]; have := HN.out; omega))).mono ?_⟩
        rintro e w6 ⟨v, rfl, hO6, hb6⟩
        obtain ⟨A6, n6, c6, rfl⟩ := hO6.slv.form
        have HO6 := Lib.hid hO6.slv; clear hO6
        gi_wp2_with fail
        refine ⟨trivial, (callsIn_wide.2 (run_c 5 (n5 : Int) (by omega) w6)).mono ?_⟩
        rintro e w7 ⟨v, rfl, hO7, hb7⟩
        obtain ⟨A7, n7, c7, rfl⟩ := hO7.slv.form
        have HO7 := Lib.hid hO7.slv; clear hO7
        gi_wp2_with fail
        refine ⟨trivial, (callsIn_wide.2 (rsame_c _ _ _ _ _ (by have := HN.out; rw [runL_length]; omega) w7 (HO6.out.below hb7) HO7.out)).mono ?_⟩
        rintro e w8 ⟨v, rfl, rfl, hb8⟩
        have hM8 := ((HMr.out.below hg3 hb6).below hg3 hb7).below hg3 hb8
        have hK8 := blk_below (blk_below (blk_below HKr.out hb6) hb7) hb8
        obtain ⟨l3, lf3⟩ := box1 hM8.1
        obtain ⟨l4, lf4⟩ := box1 hM8.2.1
        obtain ⟨l7, lf7⟩ := box1 hM8.2.2.2.2.1
        have HM8 := Lib.hid hM8; clear hM8
        have HK8 := Lib.hid hK8; clear hK8
        clear HO6 HO7 HMr HKr hb6 hb7 hb8 k0
        clear HM HK
        rcases hmost with hm | hm
        · gi_wp2
          obtain ⟨z1, z2, z3⟩ := wk_end HM8.out hg3 hD3 HK8.out
          refine ⟨by simp, .inl ⟨_, _, rfl, run_takeDeferred z1, ?_⟩⟩
          exact ⟨_, results_bool rfl _ _ (w.heap.size + 1) (.bool true) rfl z2, rfl, z3⟩
        · gi_wp2
          obtain ⟨z1, z2, z3⟩ := wk_end HM8.out hg3 hD3 HK8.out
          refine ⟨by simp, .inl ⟨_, _, rfl, run_takeDeferred z1, ?_⟩⟩
          exact ⟨_, results_bool rfl _ _ (w.heap.size + 1) (.bool true) rfl z2, rfl, z3⟩
  case stop =>
    rintro D c pre W hD hpre hX hK
    have hpl : pre.length ≤ N := by have := hpre.length_le; rwa [idx_length, hlen] at this
    rcases hX with ⟨rfl, pre', x, rfl, hno⟩ | ⟨rfl, hM, hmost, hp1⟩
    · refine absurd ?_ hno
      obtain ⟨t, ht⟩ := hpre
      have h1 := congrArg (fun z : List (Int × Int) => z[pre'.length]?) ht
      simp only [List.append_assoc, List.getElem?_append_right (Nat.le_refl _), Nat.sub_self, List.singleton_append, List.getElem?_cons_zero] at h1
      have hx := h1.trans (idx_get (runL 5 (N : Int).toNat) 0 pre'.length)
      have hq : (runL 5 (N : Int).toNat)[pre'.length]? = some (5 + (pre'.length : Int)) := by
        have h2 : pre'.length < N := by rw [List.length_append] at hpl; simp at hpl; omega
        rw [Int.toNat_natCast]
        unfold runL
        rw [List.getElem?_map, List.getElem?_range h2]
        have := HN.out
        simp [wrap_mid (5 + (pre'.length : Int)) (by omega) (by omega)]
      rw [hq] at hx
      simp at hx
      rw [hx]
      have := HN.out
      rw [List.length_append] at hpl
      simp at hpl
      refine ⟨by simp, ?_⟩
      show _ = wrap64 _
      simp
      rw [wrap_mid _ (by omega) (by omega)]
    · have hml : (pre.length : Int) ≤ (N : Int) := by omega
      rw [hmost] at hM hml
      have hp1' : (1 : Int) ≤ most := by omega
      have hD3 : w3.heap.size + 3 ≤ D := by rw [hW4, hs4] at hD; exact hD
      clear hD hlt4 hV4 hM4 hB34 hs4 hlen hpre hpl hp1 hmost
      clear hW4
      obtain ⟨B3, B4, B5, B6, B7, hV, hB⟩ := id hM
      obtain ⟨k0, -⟩ := box1 B5
      have HM := Lib.hid hM; clear hM B3 B4 B5 B6 B7 hV hB
      have HK := Lib.hid hK; clear hK
      gi_wp2_with fail
      refine ⟨trivial, (callsIn_wide.2 (list_v _ _ _ W HM.out.2.2.2.2.2.1 (by rw [runL_length]; have := HN.out; omega))).mono ?_⟩
      rintro e w5 ⟨v, rfl, hO5, hb5⟩
      obtain ⟨A5, n5, c5, rfl⟩ := hO5.slv.form
      obtain ⟨hn5, hg5⟩ := own_form hO5
      rw [runL_length, Int.toNat_natCast] at hn5
      subst hn5
      have hM5 := HM.out.below hg3 hb5
      have hK5 := blk_below HK.out hb5
      have hDW : D < W.heap.size := blk_lt HK.out
      have HO5 := Lib.hid hO5; clear hO5 hg5
      have HM5 := Lib.hid hM5; clear hM5
      have HK5 := Lib.hid hK5; clear hK5
      clear k0
      gi_wp2_with fail
      gi_loopg [51] n5 (fun k v51 wr => Aside (WkL w w3.heap.size most (rope p3) (runL 5 ((n5 : Nat) : Int).toNat) most W.heap.size (.slice A5 n5 c5) D n5 k v51 wr))
      case atStart =>
        show WkL _ _ _ _ _ _ _ _ _ _ _ _ _
        exact ⟨0, runL 5 ((n5 : Nat) : Int).toNat, rfl, by omega, by simp, HO5.out, HM5.out, HK5.out⟩
      case round =>
        clear HO5 HM5 HK5
        obtain ⟨j, ys, rfl, hj, hys, hO, hM, hKr⟩ := hrel.out
        clear hrel
        have HMr := Lib.hid hM; clear hM
        have HKr := Lib.hid hKr; clear hKr
        have HY := Lib.hid hys; clear hys
        cases gk with
        | succ k =>
          obtain ⟨go, rfl⟩ := (own_form hO).2 (by rw [HY.out]; omega)
          have hjn : (j : Int) < (n5 : Int) := by omega
          obtain ⟨y, hy⟩ : ∃ y, ys[j]? = some y := ⟨_, List.getElem?_eq_getElem (by rw [HY.out]; omega)⟩
          have hc : wr.cell? ⟨go, j, none⟩ = some (.int .i64 y) := by
            have := World.ownsRow.cells hO (g := go) (by simp [Value.ownBlock]) j (.int .i64 y) (by simp [hy])
            rwa [add_head] at this
          have hO' : wr.ownsRow W.heap.size 3 1 (.slice (some ⟨go, 0, none⟩) n5 c5) n5 (ints ys) := by have hx := hO; unfold Own at hx; rw [HY.out] at hx; exact hx
          have hf : wr.frozen? ⟨go, j, none⟩ = false := hO'.frozenAt j
          have hgo : W.heap.size ≤ go := own_base hO' go (by simp [Value.ownBlock])
          have HO := Lib.hid hO'; clear hO' hO hy
          gi_wp2
          gi_roundg k
          case measure => omega
          case rel =>
            show WkL _ _ _ _ _ _ _ _ _ _ _ _ _
            have hWg : w3.heap.size + 2 < W.heap.size := blk_lt HM.out.2.2.2.2.1
            refine ⟨j + 1, ys.set j (wrap64 (y + 1)), by first | rfl | (push_cast; rfl), by omega, by rw [List.length_set]; exact HY.out, ?_, HMr.out.keep hg3 (fun b hb => Below.heap_setCell _ _ _ _ (by show b ≠ go; omega)) (HMr.out.2.2.2.2.2.2.setCell (by show _ ≤ go; have := HM.out.2.2.2.2.2.2.size; omega) _), (Below.heap_setCell _ _ _ _ (by show D ≠ go; omega)).trans HKr.out⟩
            have := (HO.out.stored j (.int .i64 (wrap64 (y + 1)))).1
            unfold Own
            rw [List.length_set, HY.out]
            simpa [List.map_set] using this
        | zero =>
          obtain rfl : n5 = j := by omega
          clear hj hO
          obtain ⟨k0, -⟩ := box1 HMr.out.2.2.1
          gi_wp2_with fail
          refine ⟨trivial, (callsIn_wide.2 (list_v _ _ _ wr HMr.out.2.2.2.2.2.1 (by rw [runL_length]; have := HN.out; omega))).mono ?_⟩
          rintro e w6 ⟨v, rfl, hO6, hb6⟩
          obtain ⟨A6, n6, c6, rfl⟩ := hO6.slv.form
          have HO6 := Lib.hid hO6.slv; clear hO6
          gi_wp2_with fail
          refine ⟨trivial, (callsIn_wide.2 (run_c 5 (n5 : Int) (by omega) w6)).mono ?_⟩
          rintro e w7 ⟨v, rfl, hO7, hb7⟩
          obtain ⟨A7, n7, c7, rfl⟩ := hO7.slv.form
          have HO7 := Lib.hid hO7.slv; clear hO7
          gi_wp2_with fail
          refine ⟨trivial, (callsIn_wide.2 (rsame_c _ _ _ _ _ (by have := HN.out; rw [runL_length]; omega) w7 (HO6.out.below hb7) HO7.out)).mono ?_⟩
          rintro e w8 ⟨v, rfl, rfl, hb8⟩
          have hM8 := ((HMr.out.below hg3 hb6).below hg3 hb7).below hg3 hb8
          have hK8 := blk_below (blk_below (blk_below HKr.out hb6) hb7) hb8
          obtain ⟨l3, lf3⟩ := box1 hM8.1
          obtain ⟨l4, lf4⟩ := box1 hM8.2.1
          obtain ⟨l7, lf7⟩ := box1 hM8.2.2.2.2.1
          have HM8 := Lib.hid hM8; clear hM8
          have HK8 := Lib.hid hK8; clear hK8
          clear HO6 HO7 HMr HKr hb6 hb7 hb8 k0
          clear HM HK
          have hm1 : 1 ≤ most := by omega
          have hm2 : most ≤ (n5 : Int) := by omega
          gi_wp2
          obtain ⟨z1, z2, z3⟩ := wk_end HM8.out hg3 hD3 HK8.out
          refine ⟨by simp, .inl ⟨_, _, rfl, run_takeDeferred z1, ?_⟩⟩
          exact ⟨_, results_bool rfl _ _ (w.heap.size + 1) (.bool true) rfl z2, rfl, z3⟩

theorem walks_in (N : Nat) (most : Int) (w : World) (hN : N ≤ 2500) : Calls Try.prog 3 #[.int .i64 (N : Int), .int .i64 most] w (Tru w) := callsIn_wide.1 (walks_f N most w hN 3 (by omega))

set_option maxHeartbeats 4000000 in
theorem walks_out (n most : Int) (W : World) (h : n < 0 ∨ 2500 < n) :
    Calls Try.prog 3 #[.int .i64 n, .int .i64 most] W (Tru W) := by
  by_cases h1 : n < 0
  · go_enter Try.func3, Try.ntmps3
    go_wp2_with (first
      | (go_at_call 8; ((with_reducible refine (live_c _).mono ?_); rintro e w1 ⟨v, rfl, rfl, hb1⟩; have hB2 : Below W.heap.size W w1 := below_trans hB1 hb1; have HB5 := Lib.hid (blk_below HB4.out hb1); obtain ⟨l4, f4⟩ := box1 HB5.out))
      | (go_at_call 8; ((with_reducible refine (live_c _).mono ?_); rintro e w1 ⟨v, rfl, rfl, hb1⟩; have hB1 : Below W.heap.size W w1 := below_trans (by go_grown) hb1; have HB4 := Lib.hid (blk_below (heap_k1 W _ _) hb1))))
    refine bodyPost_ret (results_bool rfl _ _ (W.heap.size + 1) (.bool true) rfl (blk_put HB5.out 0 _ rfl)) rfl ?_
    exact ⟨rfl, hB2.setCell (by show W.heap.size ≤ W.heap.size + 1; omega) _⟩
  · have h2 : 2500 < n := by omega
    go_enter Try.func3, Try.ntmps3
    go_wp2_with (first
      | (go_at_call 8; ((with_reducible refine (live_c _).mono ?_); rintro e w1 ⟨v, rfl, rfl, hb1⟩; have hB2 : Below W.heap.size W w1 := below_trans hB1 hb1; have HB5 := Lib.hid (blk_below HB4.out hb1); obtain ⟨l4, f4⟩ := box1 HB5.out))
      | (go_at_call 8; ((with_reducible refine (live_c _).mono ?_); rintro e w1 ⟨v, rfl, rfl, hb1⟩; have hB1 : Below W.heap.size W w1 := below_trans (by go_grown) hb1; have HB4 := Lib.hid (blk_below (heap_k1 W _ _) hb1))))
    refine bodyPost_ret (results_bool rfl _ _ (W.heap.size + 1) (.bool true) rfl (blk_put HB5.out 0 _ rfl)) rfl ?_
    exact ⟨rfl, hB2.setCell (by show W.heap.size ≤ W.heap.size + 1; omega) _⟩

theorem walks_walk (a0 a1 : Int) (W : World) (_ : (Lit.int .i64 a0).wf = true) (_ : (Lit.int .i64 a1).wf = true) :
    Calls Try.prog 3 #[.int .i64 a0, .int .i64 a1] W fun e W' => e = .returned (.bool true) ∧ Below W.heap.size W W' := by
  by_cases h : a0 < 0 ∨ 2500 < a0
  · exact walks_out a0 a1 W h
  · obtain ⟨N, rfl⟩ : ∃ N : Nat, a0 = (N : Int) := ⟨a0.toNat, by omega⟩
    exact walks_in N a1 W (by omega)
end Go.Proofs.Ytcjpdjecgeenfaa.Ro
