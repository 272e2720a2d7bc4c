/- A rope: its length, its depth; two, one behind the other. -/
import Derived.Test.YtcjpdjecgeenfaaRoOne
import Derived.Test.YtcjpdjecgeenfaaPRopeDoesx1
import Derived.Test.YtcjpdjecgeenfaaRoRefs
import Derived.Test.YtcjpdjecgeenfaaWMore
import Derived.RangeFuncNested
import Derived.RangeFuncBound
import Derived.RangeFuncCalls
import Derived.RangeFuncLeaves
import Derived.Shelf.Abstract
import Derived.Shelf.RegionOpen
import Derived.WalkKit
import Derived.OwnWalkIn
import Derived.TacticsInMore
import Derived.LoopNIn
import Derived.LoopIn
import Derived.Maps.AppendAt
import Derived.RangeFuncWrites
import Derived.RangeFuncBox
set_option linter.unusedVariables false
set_option linter.unusedSimpArgs false
section
namespace Go.Proofs.Ytcjpdjecgeenfaa.Ro
open Go Go.RowKit Go.Proofs.Ytcjpdjecgeenfaa.Mem Go.Proofs.YtcjpdjecgeenfaaW.PrintWords

abbrev RT : TypeId := 25
abbrev rope (p : Option Addr) : Value := .agg #[.pointer p]
/-- a value that is a rope of things -/
def RopeV (K : Nat → Prop) (w : World) (v : Value) (xs : List Int) : Prop := ∃ p, v = rope p ∧ Tree K w p xs

theorem Tree.keep {K K' : Nat → Prop} {w w' : World} {p : Option Addr} {xs : List Int} (hK : ∀ b, K b → b < w.heap.size → K' b) (hb : ∀ b, K b → b < w.heap.size → w'.heap[b]? = w.heap[b]?) (h : Tree K w p xs) : Tree K' w' p xs :=
  h.elim Or.inl fun ⟨d, c, h, ht⟩ => Or.inr ⟨d, c, h.keep hK hb, ht⟩
theorem tree_far {K : Nat → Prop} {w : World} {p : Option Addr} {xs : List Int} (h : Tree K w p xs) (g : Nat) (i : Nat) (u : Value) (hg : ¬ K g) : Tree K (w.setCell ⟨g, i, none⟩ u) p xs :=
  h.keep (fun _ h _ => h) fun b hb _ => Below.heap_setCell w ⟨g, i, none⟩ u b (fun e => hg (by have e' : b = g := e; rw [← e']; exact hb))

/-- the blocks that were K's at a call's beginning, and those that are made behind the call's own boxes -/
abbrev Off (K : Nat → Prop) (w : World) (n : Nat) : Nat → Prop := fun b => (K b ∧ b < w.heap.size) ∨ w.heap.size + n ≤ b
theorem off_new {K : Nat → Prop} {w : World} {n : Nat} (b : Nat) (h : Off K w n b) : New K w b := h.elim (fun h => New.old h.1) fun h => New.fresh (by show w.heap.size ≤ b; omega)

theorem join_off (K : Nat → Prop) (w : World) (n : Nat) (p q : Option Addr) (xs ys : List Int) (W : World) (hw : w.heap.size + n ≤ W.heap.size) (h : Tree (Off K w n) W p xs) (h' : Tree (Off K w n) W q ys) (hl : (xs ++ ys).length ≤ 1000000) :
    Calls Try.prog 26 #[.pointer p, .pointer q] W (Ret (fun v w' => ∃ r, v = .pointer r ∧ Tree (Off K w n) w' r (xs ++ ys)) W) := by
  refine (join_c (Off K w n) p q xs ys W h h' hl).mono ?_
  rintro e w' ⟨v, rfl, ⟨r, rfl, hT⟩, hb⟩
  exact ⟨_, rfl, ⟨r, rfl, hT.mono fun b h => h.elim id fun h => Or.inr (Nat.le_trans hw h)⟩, hb⟩

set_option maxHeartbeats 1000000 in
theorem len_c (K : Nat → Prop) (p : Option Addr) (xs : List Int) (w : World) (h : Tree K w p xs) :
    Calls Try.prog 21 #[rope p] w (Ret (fun v _ => v = .int .i64 (xs.length : Int)) w) := by
  rcases h with ⟨rfl, rfl⟩ | ⟨d, c, h, ht⟩
  · go_enter Try.func21, Try.ntmps21
    go_wp2
    go_returns
    exact ⟨_, rfl, rfl, by go_grown⟩
  · obtain ⟨g, a0, b0, rfl, -, hg⟩ := h.head
    have hlt := blk_lt hg
    have dn : w.cell? ⟨g, 0, none⟩ = some (.int .i64 (xs.length : Int)) := blk_cell hg 0
    have dn' : (w.alloc (.cells #[.pointer (some ⟨g, 0, none⟩)] RT)).cell? ⟨g, 0, none⟩ = some (.int .i64 (xs.length : Int)) := cell_below dn ((Below.refl _ _).alloc (Nat.le_refl _) _)
    clear h ht hg
    go_enter Try.func21, Try.ntmps21
    go_wp2
    go_returns
    exact ⟨_, rfl, rfl, by go_grown⟩

set_option maxHeartbeats 2000000 in
/-- THE ROPE OF TWO. -/
theorem concat_c (K : Nat → Prop) (p q : Option Addr) (xs ys : List Int) (w : World) (h : Tree K w p xs) (h' : Tree K w q ys) (hl : (xs ++ ys).length ≤ 1000000) :
    Calls Try.prog 23 #[rope p, rope q] w (Ret (fun v w' => RopeV (New K w) w' v (xs ++ ys)) w) := by
  have HJ := Lib.hid (fun W (hw : Below w.heap.size w W) (hn : w.heap.size + 3 ≤ W.heap.size) => join_off K w 3 p q xs ys W hn ((h.bound.below hw).mono fun b h => Or.inl h) ((h'.bound.below hw).mono fun b h => Or.inl h) hl)
  clear h h'
  go_enter Try.func23, Try.ntmps23
  go_wp2_with (go_at_call 26; ((with_reducible refine (HJ.out _ (by go_grown) (by simp)).mono ?_); rintro e w1 ⟨v, rfl, ⟨r, rfl, hT⟩, hb1⟩; have B : w1.heap[w.heap.size + 1 + 1]? = some (.cells #[.pointer none] RT (0, 0)) := (hb1.block _ (by simp)).trans (heap_k2 w _ _ _); obtain ⟨bc, bf⟩ := box1 B; have HB := Lib.hid B; clear B; have HT := Lib.hid hT; clear hT; have hB1 : Below w.heap.size w w1 := below_trans (by go_grown) hb1))
  refine bodyPost_ret (results_c1 rfl _ _ (w.heap.size + 1 + 1) RT #[.pointer r] (0, 0) _ rfl (blk_put HB.out 0 _ rfl) Try.underlying25 rfl (by kernel_rfl)) rfl ?_
  refine ⟨_, rfl, ⟨r, rfl, ?_⟩, by go_grown⟩
  exact (tree_far HT.out _ _ _ (by rintro (h | h) <;> omega)).mono off_new
end Go.Proofs.Ytcjpdjecgeenfaa.Ro
end

section
namespace Go.Proofs.Ytcjpdjecgeenfaa.Ro
open Go Go.RowKit Go.Proofs.Ytcjpdjecgeenfaa.Mem Go.Proofs.YtcjpdjecgeenfaaW.PrintWords

theorem results_c2 {P : Program} {fn : Func} {p a : Tmp} {ty ta : TypeId} (h : fn.results = #[.cell p ty, .tmp a]) (tmps : Array Value) (w : World) (g : Nat) (t : TypeId) (cs : Array Value) (fr : Nat × Nat) (d : TypeDesc)
    (hp : tmps.getD p undef = .pointer (some ⟨g, 0, none⟩)) (hg : w.heap[g]? = some (.cells cs t fr))
    (hu : P.underlying ty = some d) (hd : (match d with | .struct _ | .array _ _ => true | _ => false) = true) (hi : (P.info? ty).map (·.size) = some cs.size) (va : Value) (ha : tmps.getD a undef = va) :
    (results fn tmps).run P w = .ok (.tuple #[.agg cs, va]) w := by
  have hp' : tmps[p]?.getD undef = .pointer (some ⟨g, 0, none⟩) := by simpa using hp
  have ha' : tmps[a]?.getD undef = va := by simpa using ha
  simp [results, h, hp', ha', asAddr, run_loadVar_row w g t ty cs fr d hg hu hd hi]

theorem results_rt2 {fn : Func} {p a : Tmp} (h : fn.results = #[.cell p RT, .tmp a]) (tmps : Array Value) (w : World) (g : Nat) (q : Option Addr) (va : Value) (hp : tmps.getD p undef = .pointer (some ⟨g, 0, none⟩)) (hg : w.heap[g]? = some (.cells #[.pointer q] RT (0, 0))) (ha : tmps.getD a undef = va) :
    (results fn tmps).run Try.prog w = .ok (.tuple #[rope q, va]) w :=
  results_c2 (ta := RT) h tmps w g RT _ (0, 0) _ hp hg Try.underlying25 rfl (by kernel_rfl) va ha

theorem split_off (K : Nat → Prop) (w : World) (n : Nat) (p : Option Addr) (xs : List Int) (i : Int) (W : World) (hw : w.heap.size + n ≤ W.heap.size) (h : Tree (Off K w n) W p xs) (hl : xs.length ≤ 1000000) :
    Calls Try.prog 35 #[.pointer p, .int .i64 i] W (Ret (CutP (Off K w n) xs i.toNat) W) := by
  refine (split_c (Off K w n) p xs i W h hl).mono ?_
  rintro e w' ⟨v, rfl, ⟨a, b, rfl, ha, hb'⟩, hb⟩
  exact ⟨_, rfl, ⟨a, b, rfl, ha.mono fun b h => h.elim id fun h => Or.inr (Nat.le_trans hw h), hb'.mono fun b h => h.elim id fun h => Or.inr (Nat.le_trans hw h)⟩, hb⟩

theorem leaf_off (K : Nat → Prop) (w : World) (n : Nat) (A : Option Addr) (m c : Nat) (xs : List Int) (W : World) (hw : w.heap.size + n ≤ W.heap.size) (h : SlV (Off K w n) W (.slice A m c) (ints xs)) (h1 : 1 ≤ xs.length) (h16 : xs.length ≤ 16) :
    Calls Try.prog 27 #[.slice A m c] W (Ret (fun v w' => ∃ r, v = .pointer r ∧ Tree (Off K w n) w' r xs) W) := by
  refine (leaf_some (Off K w n) A m c xs W h (by rintro rfl; simp at h1)).mono ?_
  rintro e w' ⟨v, rfl, ⟨r, rfl, hT⟩, hb⟩
  exact ⟨_, rfl, ⟨r, rfl, Or.inr ⟨0, _, hT.mono fun b h => h.elim id fun h => Or.inr (Nat.le_trans hw h), h1, h16, Or.inl rfl⟩⟩, hb⟩

set_option maxHeartbeats 2000000 in
theorem insert_out (K : Nat → Prop) (p : Option Addr) (xs : List Int) (i x : Int) (w : World) (h : Tree K w p xs) (hi : i < 0 ∨ (xs.length : Int) < i) :
    Calls Try.prog 24 #[rope p, .int .i64 i, .int .i64 x] w (Ret (fun v _ => v = .tuple #[rope none, .int .i64 4]) w) := by
  have HL := Lib.hid (fun W (hw : Below w.heap.size w W) => len_c K p xs W (h.below hw))
  clear h
  rcases (by omega : i < 0 ∨ 0 ≤ i) with h1 | h1
  · go_enter Try.func24, Try.ntmps24
    go_wp2
    go_returns
    exact ⟨_, rfl, rfl, by go_grown⟩
  · have h2 : (xs.length : Int) < i := by omega
    have h3 : (decide (i < 0)) = false := by simp; omega
    go_enter Try.func24, Try.ntmps24
    go_wp2_with (go_at_call 21; ((with_reducible refine (HL.out _ (by go_grown)).mono ?_); rintro e w1 ⟨v, rfl, rfl, hb1⟩; have B : w1.heap[w.heap.size + 1]? = some (.cells #[.pointer none] RT (0, 0)) := (hb1.block _ (by simp)).trans (heap_k1 w _ _); obtain ⟨bc, bf⟩ := box1 B; have HB := Lib.hid B; clear B; have hB1 : Below w.heap.size w w1 := below_trans (by go_grown) hb1))
    refine bodyPost_ret (results_rt2 rfl _ _ (w.heap.size + 1) none _ rfl (blk_put HB.out 0 _ rfl) rfl) rfl ?_
    exact ⟨_, rfl, rfl, by go_grown⟩

set_option maxHeartbeats 4000000 in
/-- A ROPE WITH A THING MORE. -/
theorem insert_in (K : Nat → Prop) (p : Option Addr) (xs : List Int) (i x : Int) (w : World) (h : Tree K w p xs) (h0 : 0 ≤ i) (hi : i ≤ (xs.length : Int)) (hl : xs.length + 1 ≤ 1000000) :
    Calls Try.prog 24 #[rope p, .int .i64 i, .int .i64 x] w (Ret (fun v w' => ∃ u, v = .tuple #[u, .int .i64 0] ∧ RopeV (New K w) w' u (xs.take i.toNat ++ x :: xs.drop i.toNat)) w) := by
  have HL := Lib.hid (fun W (hw : Below w.heap.size w W) => len_c K p xs W (h.below hw))
  have HS := Lib.hid (fun W (hw : Below w.heap.size w W) (hn : w.heap.size + 2 ≤ W.heap.size) => split_off K w 2 p xs i W hn ((h.bound.below hw).mono fun b h => Or.inl h) (by omega))
  clear h
  have hi' : ¬ (xs.length : Int) < i := by omega
  have h3 : (decide (i < 0)) = false := by simp; omega
  have HE1 := Lib.hid (show (xs.take i.toNat ++ [x]).length ≤ 1000000 by rw [List.length_append, List.length_take, List.length_singleton]; omega)
  have HE2 := Lib.hid (show (xs.take i.toNat ++ [x] ++ xs.drop i.toNat).length ≤ 1000000 by rw [List.length_append, List.length_append, List.length_take, List.length_drop, List.length_singleton]; omega)
  clear hl
  go_enter Try.func24, Try.ntmps24
  go_wp2_with (first
    | (go_at_call 21; ((with_reducible refine (HL.out _ (by go_grown)).mono ?_); rintro e w1 ⟨v, rfl, rfl, hb1⟩; have B0 : w1.heap[w.heap.size]? = some (.cells #[.pointer p] RT (0, 0)) := (hb1.block _ (by simp; omega)).trans (blk_alloc (blk_new w _) _); have B : w1.heap[w.heap.size + 1]? = some (.cells #[.pointer none] RT (0, 0)) := (hb1.block _ (by simp)).trans (heap_k1 w _ _); obtain ⟨bc0, bf0⟩ := box1 B0; have HB := Lib.hid B; clear B B0; have hB1 : Below w.heap.size w w1 := below_trans (by go_grown) hb1; have hn1 : w.heap.size + 2 ≤ w1.heap.size := by have := hb1.size; simpa using this))
    | (go_at_call 35; ((with_reducible refine (HS.out _ hB1 hn1).mono ?_); rintro e w2 ⟨v, rfl, ⟨ta, tb, rfl, hta, htb⟩, hb2⟩; have HTa := Lib.hid hta; have HTb := Lib.hid htb; clear hta htb; have hB2 : Below w.heap.size w w2 := below_trans hB1 hb2; have hn2 : w.heap.size + 2 ≤ w2.heap.size := Nat.le_trans hn1 hb2.size; have HB2 := Lib.hid (blk_below HB.out hb2); have HSX := Lib.hid (show SlV (Off K w 2) (w2.alloc (.cells #[.int .i64 x] 3)) (.slice (some ⟨w2.heap.size, 0, none⟩) 1 1) (ints [x]) from SlV.blk (xs := ints [x]) (c := 1) (blk_new w2 _) (fun j u hu => by rcases j with _ | j <;> first | (simp at hu; done) | simpa using hu) (by simp) (by simp [maxLen]) (ints_one [x]) (Or.inr hn2)); have HNX := Lib.hid (show w.heap.size + 2 ≤ (w2.alloc (.cells #[.int .i64 x] 3)).heap.size from Nat.le_trans hn2 (by simp))))
    | (go_at_call 27; ((with_reducible refine (leaf_off K w 2 _ _ _ [x] _ HNX.out HSX.out (by simp) (by simp)).mono ?_); rintro e w3 ⟨v, rfl, ⟨tx, rfl, htx⟩, hb3⟩; have hb23 : Below w2.heap.size w2 w3 := below_trans ((Below.refl _ _).alloc (Nat.le_refl _) _) hb3; have HTx := Lib.hid htx; clear htx; have HTa3 := Lib.hid (HTa.out.below hb23); have HTb3 := Lib.hid (HTb.out.below hb23); clear HTa HTb; have hn3 : w.heap.size + 2 ≤ w3.heap.size := Nat.le_trans hn2 hb23.size; have HB3 := Lib.hid (blk_below HB2.out hb23); have hB3 := below_trans hB2 hb23; clear hb3))
    | (go_at_call 26; ((with_reducible refine (join_off K w 2 _ _ _ _ _ hn3 HTa3.out HTx.out HE1.out).mono ?_); rintro e w4 ⟨v, rfl, ⟨tj, rfl, htj⟩, hb4⟩; have HTj := Lib.hid htj; clear htj; have HTb4 := Lib.hid (HTb3.out.below hb4); clear HTb3; have hn4 : w.heap.size + 2 ≤ w4.heap.size := Nat.le_trans hn3 hb4.size; have HB4 := Lib.hid (blk_below HB3.out hb4); have hB4 := below_trans hB3 hb4; clear HTa3 HTx))
    | (go_at_call 26; ((with_reducible refine (join_off K w 2 _ _ _ _ _ hn4 HTj.out HTb4.out HE2.out).mono ?_); rintro e w5 ⟨v, rfl, ⟨tr, rfl, htr⟩, hb5⟩; have HTr := Lib.hid htr; clear htr; have HB5 := Lib.hid (blk_below HB4.out hb5); obtain ⟨bc5, bf5⟩ := box1 HB5.out; have hB5 := below_trans hB4 hb5)))
  refine bodyPost_ret (results_rt2 rfl _ _ (w.heap.size + 1) tr _ rfl (blk_put HB5.out 0 _ rfl) rfl) rfl ?_
  refine ⟨_, rfl, ⟨_, rfl, tr, rfl, ?_⟩, by go_grown⟩
  have := (tree_far HTr.out (w.heap.size + 1) 0 (.pointer tr) (by rintro (h | h) <;> omega)).mono off_new
  rw [List.append_assoc] at this
  exact this
end Go.Proofs.Ytcjpdjecgeenfaa.Ro
end

section
namespace Go.Proofs.Ytcjpdjecgeenfaa.Ro
open Go Go.RowKit Go.Proofs.Ytcjpdjecgeenfaa.Mem Go.Proofs.YtcjpdjecgeenfaaW.PrintWords

set_option maxHeartbeats 2000000 in
theorem has_no (K : Nat → Prop) (p : Option Addr) (xs : List Int) (i : Int) (w : World) (h : Tree K w p xs) (hi : i < 0 ∨ (xs.length : Int) ≤ i) :
    Calls Try.prog 33 #[rope p, .int .i64 i] w (Ret (fun v _ => v = .bool false) w) := by
  have HL := Lib.hid (fun W (hw : Below w.heap.size w W) => len_c K p xs W (h.below hw))
  clear h
  rcases (by omega : i < 0 ∨ 0 ≤ i) with h1 | h1
  · have h2 : (decide (0 ≤ i)) = false := by simp; omega
    go_enter Try.func33, Try.ntmps33
    go_wp2
    go_returns
    exact ⟨_, rfl, rfl, by go_grown⟩
  · have h3 : (decide (i < (xs.length : Int))) = false := by simp; omega
    have h2 : ¬ i < (xs.length : Int) := by omega
    go_enter Try.func33, Try.ntmps33
    go_wp2_with (go_at_call 21; ((with_reducible refine (HL.out _ (by go_grown)).mono ?_); rintro e w1 ⟨v, rfl, rfl, hb1⟩; have hB1 : Below w.heap.size w w1 := below_trans (by go_grown) hb1))
    go_returns
    exact ⟨_, rfl, rfl, hB1⟩

set_option maxHeartbeats 2000000 in
theorem has_yes (K : Nat → Prop) (p : Option Addr) (xs : List Int) (i : Int) (w : World) (h : Tree K w p xs) (h0 : 0 ≤ i) (hi : i < (xs.length : Int)) :
    Calls Try.prog 33 #[rope p, .int .i64 i] w (Ret (fun v _ => v = .bool true) w) := by
  have HL := Lib.hid (fun W (hw : Below w.heap.size w W) => len_c K p xs W (h.below hw))
  clear h
  go_enter Try.func33, Try.ntmps33
  go_wp2_with (go_at_call 21; ((with_reducible refine (HL.out _ (by go_grown)).mono ?_); rintro e w1 ⟨v, rfl, rfl, hb1⟩; have hB1 : Below w.heap.size w w1 := below_trans (by go_grown) hb1))
  go_returns
  exact ⟨_, rfl, rfl, hB1⟩

set_option maxHeartbeats 2000000 in
theorem remove_out (K : Nat → Prop) (p : Option Addr) (xs : List Int) (i : Int) (w : World) (h : Tree K w p xs) (hi : i < 0 ∨ (xs.length : Int) ≤ i) :
    Calls Try.prog 25 #[rope p, .int .i64 i] w (Ret (fun v _ => v = .tuple #[rope none, .int .i64 4]) w) := by
  have HH := Lib.hid (fun W (hw : Below w.heap.size w W) => has_no K p xs i W (h.below hw) hi)
  clear h
  go_enter Try.func25, Try.ntmps25
  go_wp2_with (go_at_call 33; ((with_reducible refine (HH.out _ (by go_grown)).mono ?_); rintro e w1 ⟨v, rfl, rfl, hb1⟩; have B : w1.heap[w.heap.size + 1]? = some (.cells #[.pointer none] RT (0, 0)) := (hb1.block _ (by simp)).trans (heap_k1 w _ _); obtain ⟨bc, bf⟩ := box1 B; have HB := Lib.hid B; clear B; have hB1 : Below w.heap.size w w1 := below_trans (by go_grown) hb1))
  refine bodyPost_ret (results_rt2 rfl _ _ (w.heap.size + 1) none _ rfl (blk_put HB.out 0 _ rfl) rfl) rfl ?_
  exact ⟨_, rfl, rfl, by go_grown⟩

set_option maxHeartbeats 4000000 in
/-- A ROPE WITH A THING LESS. -/
theorem remove_in (K : Nat → Prop) (p : Option Addr) (xs : List Int) (i : Int) (w : World) (h : Tree K w p xs) (h0 : 0 ≤ i) (hi : i < (xs.length : Int)) (hl : xs.length ≤ 1000000) :
    Calls Try.prog 25 #[rope p, .int .i64 i] w (Ret (fun v w' => ∃ u, v = .tuple #[u, .int .i64 0] ∧ RopeV (New K w) w' u (xs.take i.toNat ++ (xs.drop i.toNat).drop 1)) w) := by
  have HH := Lib.hid (fun W (hw : Below w.heap.size w W) => has_yes K p xs i W (h.below hw) h0 hi)
  have HS := Lib.hid (fun W (hw : Below w.heap.size w W) (hn : w.heap.size + 2 ≤ W.heap.size) => split_off K w 2 p xs i W hn ((h.bound.below hw).mono fun b h => Or.inl h) hl)
  clear h
  have HE1 := Lib.hid (show (xs.drop i.toNat).length ≤ 1000000 by rw [List.length_drop]; omega)
  have HE2 := Lib.hid (show (xs.take i.toNat ++ (xs.drop i.toNat).drop (1 : Int).toNat).length ≤ 1000000 by rw [List.length_append, List.length_take, List.length_drop, List.length_drop]; omega)
  clear hl
  go_enter Try.func25, Try.ntmps25
  go_wp2_with (first
    | (go_at_call 33; ((with_reducible refine (HH.out _ (by go_grown)).mono ?_); rintro e w1 ⟨v, rfl, rfl, hb1⟩; have B0 : w1.heap[w.heap.size]? = some (.cells #[.pointer p] RT (0, 0)) := (hb1.block _ (by simp; omega)).trans (blk_alloc (blk_new w _) _); have B : w1.heap[w.heap.size + 1]? = some (.cells #[.pointer none] RT (0, 0)) := (hb1.block _ (by simp)).trans (heap_k1 w _ _); obtain ⟨bc0, bf0⟩ := box1 B0; have HB := Lib.hid B; clear B B0; have hB1 : Below w.heap.size w w1 := below_trans (by go_grown) hb1; have hn1 : w.heap.size + 2 ≤ w1.heap.size := by have := hb1.size; simpa using this))
    | (go_at_call 35; ((with_reducible refine (HS.out _ hB1 hn1).mono ?_); rintro e w2 ⟨v, rfl, ⟨ta, tb, rfl, hta, htb⟩, hb2⟩; have HTa := Lib.hid hta; have HTb := Lib.hid htb; clear hta htb; have hB2 : Below w.heap.size w w2 := below_trans hB1 hb2; have hn2 : w.heap.size + 2 ≤ w2.heap.size := Nat.le_trans hn1 hb2.size; have HB2 := Lib.hid (blk_below HB.out hb2)))
    | (go_at_call 35; ((with_reducible refine (split_off K w 2 _ _ 1 _ hn2 HTb.out HE1.out).mono ?_); rintro e w3 ⟨v, rfl, ⟨tc, td, rfl, htc, htd⟩, hb3⟩; have HTd := Lib.hid htd; clear htc htd; have HTa3 := Lib.hid (HTa.out.below hb3); clear HTa; have hn3 : w.heap.size + 2 ≤ w3.heap.size := Nat.le_trans hn2 hb3.size; have HB3 := Lib.hid (blk_below HB2.out hb3); have hB3 := below_trans hB2 hb3))
    | (go_at_call 26; ((with_reducible refine (join_off K w 2 _ _ _ _ _ hn3 HTa3.out HTd.out HE2.out).mono ?_); rintro e w5 ⟨v, rfl, ⟨tr, rfl, htr⟩, hb5⟩; have HTr := Lib.hid htr; clear htr; have HB5 := Lib.hid (blk_below HB3.out hb5); obtain ⟨bc5, bf5⟩ := box1 HB5.out; have hB5 := below_trans hB3 hb5)))
  refine bodyPost_ret (results_rt2 rfl _ _ (w.heap.size + 1) tr _ rfl (blk_put HB5.out 0 _ rfl) rfl) rfl ?_
  refine ⟨_, rfl, ⟨_, rfl, tr, rfl, ?_⟩, by go_grown⟩
  exact (tree_far HTr.out (w.heap.size + 1) 0 (.pointer tr) (by rintro (h | h) <;> omega)).mono off_new
end Go.Proofs.Ytcjpdjecgeenfaa.Ro
end

section
namespace Go.Proofs.Ytcjpdjecgeenfaa.Ro
open Go Go.RowKit Go.Proofs.Ytcjpdjecgeenfaa.Mem Go.Proofs.YtcjpdjecgeenfaaW.PrintWords

set_option maxHeartbeats 4000000 in
/-- A PIECE OF A ROPE. -/
theorem slice_c (K : Nat → Prop) (p : Option Addr) (xs : List Int) (lo hi a b : Int) (w : World) (h : Tree K w p xs) (hc : Go.Proofs.Ytcjpdjecgeenfaa.PRopeDoes.num_Cut.f lo hi (xs.length : Int) = some (a, b)) (hl : xs.length ≤ 1000000) :
    Calls Try.prog 22 #[rope p, .int .i64 lo, .int .i64 hi] w (Ret (fun v w' => RopeV (New K w) w' v ((xs.take b.toNat).drop a.toNat)) w) := by
  have HL := Lib.hid (fun W (hw : Below w.heap.size w W) => len_c K p xs W (h.below hw))
  have HC := Lib.hid (fun W => Go.Proofs.Ytcjpdjecgeenfaa.PRopeDoes.num_Cut.calls lo hi (xs.length : Int) a b W hc)
  have HS := Lib.hid (fun W (hw : Below w.heap.size w W) (hn : w.heap.size + 2 ≤ W.heap.size) => split_off K w 2 p xs b W hn ((h.bound.below hw).mono fun b h => Or.inl h) hl)
  have HE1 := Lib.hid (show (xs.take b.toNat).length ≤ 1000000 by rw [List.length_take]; omega)
  clear h hc hl
  go_enter Try.func22, Try.ntmps22
  go_wp2_with (first
    | (go_at_call 21; ((with_reducible refine (HL.out _ (by go_grown)).mono ?_); rintro e w1 ⟨v, rfl, rfl, hb1⟩; have B0 : w1.heap[w.heap.size]? = some (.cells #[.pointer p] RT (0, 0)) := (hb1.block _ (by simp; omega)).trans (blk_alloc (blk_new w _) _); have B : w1.heap[w.heap.size + 1]? = some (.cells #[.pointer none] RT (0, 0)) := (hb1.block _ (by simp)).trans (heap_k1 w _ _); have HB0 := Lib.hid B0; have HB := Lib.hid B; clear B B0; have hB1 : Below w.heap.size w w1 := below_trans (by go_grown) hb1; have hn1 : w.heap.size + 2 ≤ w1.heap.size := by have := hb1.size; simpa using this))
    | (go_at_call 34; ((with_reducible refine (HC.out _).mono ?_); rintro e w2 ⟨rfl, hb2⟩; have hB2 : Below w.heap.size w w2 := below_trans hB1 hb2; have hn2 : w.heap.size + 2 ≤ w2.heap.size := Nat.le_trans hn1 hb2.size; have HB2 := Lib.hid (blk_below HB.out hb2); obtain ⟨bc0, bf0⟩ := box1 (blk_below HB0.out hb2)))
    | (go_at_call 35; ((with_reducible refine (HS.out _ hB2 hn2).mono ?_); rintro e w3 ⟨v, rfl, ⟨ta, tb, rfl, hta, htb⟩, hb3⟩; have HTa := Lib.hid hta; clear hta htb; have hB3 : Below w.heap.size w w3 := below_trans hB2 hb3; have hn3 : w.heap.size + 2 ≤ w3.heap.size := Nat.le_trans hn2 hb3.size; have HB3 := Lib.hid (blk_below HB2.out hb3)))
    | (go_at_call 35; ((with_reducible refine (split_off K w 2 _ _ a _ hn3 HTa.out HE1.out).mono ?_); rintro e w4 ⟨v, rfl, ⟨tc, td, rfl, htc, htd⟩, hb4⟩; have HTr := Lib.hid htd; clear htc htd; have HB5 := Lib.hid (blk_below HB3.out hb4); obtain ⟨bc5, bf5⟩ := box1 HB5.out; have hB5 := below_trans hB3 hb4)))
  refine bodyPost_ret (results_c1 rfl _ _ (w.heap.size + 1) RT #[.pointer td] (0, 0) _ rfl (blk_put HB5.out 0 _ rfl) Try.underlying25 rfl (by kernel_rfl)) rfl ?_
  refine ⟨_, rfl, ⟨td, rfl, ?_⟩, by go_grown⟩
  exact (tree_far HTr.out (w.heap.size + 1) 0 (.pointer td) (by rintro (h | h) <;> omega)).mono off_new
end Go.Proofs.Ytcjpdjecgeenfaa.Ro
end

section
namespace Go.Proofs.Ytcjpdjecgeenfaa.Ro
open Go Go.RowKit Go.Proofs.Ytcjpdjecgeenfaa.Mem Go.Proofs.YtcjpdjecgeenfaaW.PrintWords

/-- a list in a block -/
def InB (w : World) (e : TypeId) (g cap : Nat) (xs : List Value) : Prop :=
  ∃ cur : Array Value, w.heap[g]? = some (.cells cur e (0, 0)) ∧ xs.length ≤ cap ∧ cap ≤ maxLen ∧ cur.size = cap ∧ cur.toList.take xs.length = xs ∧ ∀ u ∈ xs, u.oneCell' = true

theorem OwnR.blk {e : TypeId} {base : Nat} {w : World} {v : Value} {xs : List Value} (h : OwnR e base w v xs) (h1 : 0 < xs.length) : ∃ g cap, v = .slice (some ⟨g, 0, none⟩) xs.length cap ∧ base ≤ g ∧ InB w e g cap xs := by
  obtain ⟨⟨-, h2⟩, h3⟩ := h
  rcases h2 with ⟨_, h0⟩ | ⟨g, cap, cur, rfl, hb, hg, hn, hm, hs, ht⟩
  · omega
  · exact ⟨g, cap, rfl, hb, cur, hg, hn, hm, by rw [hs, Nat.mul_one], by rw [Nat.mul_one] at ht; exact ht, h3⟩

section
variable {w w' : World} {e : TypeId} {g cap : Nat} {xs : List Value}
theorem InB.keep (h : InB w e g cap xs) (hb : g < w.heap.size → w'.heap[g]? = w.heap[g]?) : InB w' e g cap xs := by
  obtain ⟨cur, hg, h⟩ := h
  exact ⟨cur, (hb (blk_lt hg)).trans hg, h⟩
theorem InB.below (h : InB w e g cap xs) (hb : Below w.heap.size w w') : InB w' e g cap xs := h.keep fun hlt => hb.block _ hlt
theorem InB.lt (h : InB w e g cap xs) : g < w.heap.size := by obtain ⟨cur, hg, _⟩ := h; exact blk_lt hg
theorem InB.frozen (h : InB w e g cap xs) (j : Nat) : w.frozen? ⟨g, j, none⟩ = false := by obtain ⟨cur, hg, _⟩ := h; exact blk_frozen hg j
theorem InB.cell (h : InB w e g cap xs) {j : Nat} {u : Value} (hu : xs[j]? = some u) : w.cell? ⟨g, j, none⟩ = some u := by
  obtain ⟨cur, hg, h1, h2, h3, h4, h5⟩ := h
  rw [blk_cell hg]
  have hj := (List.getElem?_eq_some_iff.1 hu).1
  rw [← h4, List.getElem?_take_of_lt hj] at hu
  simpa using hu
theorem InB.slv (h : InB w e g cap xs) {K : Nat → Prop} (hK : K g) : SlV K w (.slice (some ⟨g, 0, none⟩) xs.length cap) xs := by
  obtain ⟨cur, hg, h1, h2, h3, h4, h5⟩ := h
  refine SlV.blk hg (fun j u hu => ?_) h1 h2 h5 hK
  have hj := (List.getElem?_eq_some_iff.1 hu).1
  rw [← h4, List.getElem?_take_of_lt hj] at hu
  simpa using hu
theorem InB.set (h : InB w e g cap xs) (j : Nat) (u : Value) (hu : u.oneCell' = true) : InB (w.setCell ⟨g, j, none⟩ u) e g cap (xs.set j u) := by
  obtain ⟨cur, hg, h1, h2, h3, h4, h5⟩ := h
  refine ⟨_, blk_put hg j u rfl, by simpa using h1, h2, by simpa using h3, ?_, fun x hx => ?_⟩
  · rw [List.length_set, Array.toList_setIfInBounds, List.take_set, h4]
  · rcases List.mem_or_eq_of_mem_set hx with h | rfl
    · exact h5 x h
    · exact hu
end
end Go.Proofs.Ytcjpdjecgeenfaa.Ro
end

section
namespace Go.Proofs.Ytcjpdjecgeenfaa.Ro
open Go Go.RowKit Go.Proofs.Ytcjpdjecgeenfaa.Mem Go.Proofs.YtcjpdjecgeenfaaW.PrintWords

set_option maxHeartbeats 4000000 in
theorem set_leaf (K : Nat → Prop) (p : Option Addr) (c : Nat) (xs : List Int) (m : Nat) (x : Int) (w : World) (h : RRep K w 0 p c xs) (hm : m < xs.length) (hl : xs.length ≤ 1000000) :
    Calls Try.prog 50 #[.pointer p, .int .i64 (m : Int), .int .i64 x] w (Ret (fun v w' => ∃ r, v = .pointer r ∧ RRep (New K w) w' 0 r c (xs.set m x)) w) := by
  obtain ⟨g, s, rfl, hK, hg, hs, rfl⟩ := h
  obtain ⟨A, n, cap, rfl⟩ := hs.form
  obtain rfl : n = xs.length := by have := hs.len; simpa using this
  have hlt := blk_lt hg
  have dn : w.cell? ⟨g, 0, none⟩ = some (.int .i64 (xs.length : Int)) := blk_cell hg 0
  have dd : w.cell? ⟨g, 1, none⟩ = some (.int .i64 1) := blk_cell hg 1
  have k3 : w.cell? ⟨g, 3, none⟩ = some (.slice A xs.length cap) := blk_cell hg 3
  have HA := Lib.hid (fun W (hw : Below w.heap.size w W) => both_int' A xs.length cap (ints xs) none 0 0 [] W K (fun _ => False) (hs.below hw) (SlV.nil _ W) (by simp; omega) (by simp))
  have HP := Lib.hid (show 0 < (ints xs).length by rw [List.length_map]; omega)
  clear hs hg hK
  have hmI : (m : Int) < (xs.length : Int) := by omega
  have hm0 : (0 : Int) ≤ (m : Int) := by omega
  go_enter Try.func50, Try.ntmps50
  go_wp2_with fail
  go_region
  all_goals
    go_wp2_with (go_at_call 28; ((with_reducible refine (HA.out _ (Below.drew ((Below.refl _ _).alloc (Nat.le_refl _) _))).mono ?_); rintro e w1 ⟨v, rfl, hO, hb1⟩; rw [List.append_nil] at hO; obtain ⟨gv, cv, rfl, hgv, hI⟩ := hO.blk HP.out; have hlen : (ints xs).length = xs.length := (by simp); rw [hlen]; have B : w1.heap[w.heap.size]? = some (.cells #[.int .i64 (xs.length : Int), .int .i64 1, .slice none 0 0, .slice none 0 0] NT (0, 0)) := (hb1.block _ (by simp)).trans (by exact blk_new _ _); obtain ⟨⟨q0, q1, q2, q3⟩, f0, f1, f2, f3⟩ := box4 B; have hn1 : w.heap.size + 1 ≤ gv := (by simpa using hgv); have hne1 : gv ≠ w.heap.size := (by omega); have hne2 : w.heap.size ≠ gv := (by omega); have hfr := hI.frozen m; have hce := hI.cell (j := m) (u := .int .i64 xs[m]) (by simp [hm]); have hB1 : Below w.heap.size w w1 := below_trans (Below.drew ((Below.refl _ _).alloc (Nat.le_refl _) _)) hb1; have HI := Lib.hid hI; have HB := Lib.hid B; clear hO hI B hlen))
    go_returns
    refine ⟨_, rfl, ⟨_, rfl, w.heap.size, _, rfl, New.fresh (Nat.le_refl _), by rw [List.length_set]; exact blk_far (blk_put HB.out 3 _ rfl) hne2 _, ?_, (List.length_set).symm⟩, by go_grown⟩
    have h1 := ((HI.out.keep (w' := w1.setCell ⟨w.heap.size, 3, none⟩ (.slice (some ⟨gv, 0, none⟩) xs.length cv)) fun _ => Below.heap_setCell w1 ⟨w.heap.size, 3, none⟩ _ gv hne1).set m (.int .i64 x) rfl).slv (K := New K w) (New.fresh (by show w.heap.size ≤ gv; omega))
    rw [← List.map_set, List.length_map, List.length_set] at h1
    exact h1
end Go.Proofs.Ytcjpdjecgeenfaa.Ro
end

section
namespace Go.Proofs.Ytcjpdjecgeenfaa.Ro
open Go Go.RowKit Go.Proofs.Ytcjpdjecgeenfaa.Mem Go.Proofs.YtcjpdjecgeenfaaW.PrintWords

theorem things_set {ks : List Kid} {j mi m : Nat} {kid : Kid} {r : Option Addr} {c : Nat} {x : Int} (h : ks[j]? = some kid) (hm : (things (ks.take j)).length + mi = m) (hl : mi < kid.2.2.length) : (things ks).set m x = things (ks.set j (r, c, kid.2.2.set mi x)) := by
  have hj : j < ks.length := (List.getElem?_eq_some_iff.1 h).1
  rw [things_at h, things_at (ks := ks.set j (r, c, kid.2.2.set mi x)) (kid := (r, c, kid.2.2.set mi x)) (List.getElem?_set_self hj), List.take_set_of_le (Nat.le_refl j), List.drop_set_of_lt (Nat.lt_succ_self j), ← hm]
  rw [List.set_append_right _ _ (by omega), Nat.add_sub_cancel_left, List.set_append_left _ _ hl]

set_option maxHeartbeats 8000000 in
theorem set_inner (K : Nat → Prop) (d : Nat) (hd : d ≤ 80) (x : Int)
    (ih : ∀ (K : Nat → Prop) (p : Option Addr) (c : Nat) (xs : List Int) (m : Nat) (w : World), RRep K w d p c xs → c ≤ 16 → m < xs.length → xs.length ≤ 1000000 →
      Calls Try.prog 50 #[.pointer p, .int .i64 (m : Int), .int .i64 x] w (Ret (fun v w' => ∃ r, v = .pointer r ∧ RRep (New K w) w' d r c (xs.set m x)) w))
    (p : Option Addr) (c : Nat) (xs : List Int) (m : Nat) (w : World) (h : RRep K w (d + 1) p c xs) (hc : c ≤ 16) (hm : m < xs.length) (hl : xs.length ≤ 1000000) :
    Calls Try.prog 50 #[.pointer p, .int .i64 (m : Int), .int .i64 x] w (Ret (fun v w' => ∃ r, v = .pointer r ∧ RRep (New K w) w' (d + 1) r c (xs.set m x)) w) := by
  obtain ⟨g, s, ks, rfl, hK, hg, hs, hks, rfl, rfl⟩ := h
  obtain ⟨A, n, cap, rfl⟩ := hs.form
  obtain rfl : n = ks.length := by have := hs.len; simpa using this
  have hks0 : 0 < ks.length := List.length_pos_iff.2 (by rintro rfl; simp [things] at hm)
  obtain ⟨ad, rfl, hcell⟩ := hs.addr (by simpa using hks0)
  have hcap : ks.length ≤ cap := by obtain ⟨_, _, e, h3, _⟩ := hs; injection e with _ _ e3; subst e3; simpa using h3
  obtain ⟨tn, htn⟩ : ∃ tn : Nat, tn = (things ks).length := ⟨_, rfl⟩
  have dn : w.cell? ⟨g, 0, none⟩ = some (.int .i64 (tn : Int)) := by rw [htn]; exact blk_cell hg 0
  have dd : w.cell? ⟨g, 1, none⟩ = some (.int .i64 ((d : Int) + 2)) := blk_cell hg 1
  have k2 : w.cell? ⟨g, 2, none⟩ = some (.slice (some ad) ks.length cap) := blk_cell hg 2
  have HTN := Lib.hid htn
  have hltg := blk_lt hg
  have hd2 : ((d : Int) + 2 == 1) = false := beq_false_of_ne (by omega)
  have HM := Lib.hid (show m < (things ks).length ∧ (things ks).length ≤ 1000000 from ⟨hm, hl⟩)
  have HS := Lib.hid hs
  have HC := Lib.hid hcell
  have HKS := Lib.hid hks
  have HIH := Lib.hid ih
  clear hs hcell hks hg hK ih hm hl htn
  have hlt : g < w.heap.size := by assumption
  go_enter Try.func50, Try.ntmps50
  go_wp2_with fail
  go_region
  all_goals
    go_wp2_with fail
    obtain ⟨W0, hW0⟩ : ∃ W0, W0 = (w.alloc (.cells #[.int .i64 (tn : Int), .int .i64 ((d : Int) + 2), .slice none 0 0, .slice none 0 0] NT)).drew := ⟨_, rfl⟩
    rw [← hW0]
    have hBW : Below w.heap.size w W0 := by rw [hW0]; exact Below.drew ((Below.refl _ _).alloc (Nat.le_refl _) _)
    have hBX : W0.heap[w.heap.size]? = some (.cells #[.int .i64 (tn : Int), .int .i64 ((d : Int) + 2), .slice none 0 0, .slice none 0 0] NT (0, 0)) := by rw [hW0]; exact blk_new _ _
    have HBX := Lib.hid hBX; clear hBX hW0
    have k2' := cell_below k2 hBW
    go_loopg [1, 8] ks.length (fun k v1 v8 wr => Aside (FindI W0 ks m k v1 v8 wr))
    case atStart =>
      show FindI _ _ _ _ _ _ _
      exact ⟨rfl, 0, m, rfl, rfl, by omega, by simp [things]⟩
    case round =>
      obtain ⟨rfl, j, mi, rfl, rfl, hj, hmi⟩ := hrel.out
      have HMI := Lib.hid hmi; clear hmi
      clear hrel
      cases gk with
      | zero =>
        refine absurd HMI.out ?_
        have := HM.out
        rw [List.take_of_length_le (by omega)]
        omega
      | succ k =>
        have hjl : j < ks.length := by omega
        have hjI : (j : Int) < (ks.length : Int) := by omega
        obtain ⟨kid, hkid⟩ : ∃ kid, ks[j]? = some kid := ⟨_, List.getElem?_eq_getElem hjl⟩
        obtain ⟨g1, a1, b1, e1, hg1, B1⟩ := (HKS.out kid (List.mem_of_getElem? hkid)).1.head
        have c0 : w.cell? (ad.add j) = some (.pointer (some ⟨g1, 0, none⟩)) := by have := HC.out j (.pointer kid.1) (by simp [hkid]); rw [e1] at this; exact this
        obtain ⟨l1, hl1⟩ : ∃ l1 : Nat, l1 = kid.2.2.length := ⟨_, rfl⟩
        have d0 : w.cell? ⟨g1, 0, none⟩ = some (.int .i64 (l1 : Int)) := by rw [hl1]; exact blk_cell B1 0
        have c1 := cell_below c0 hBW
        have d1 := cell_below d0 hBW
        have HL1 := Lib.hid hl1
        have HKID := Lib.hid hkid
        obtain ⟨j1, hj1⟩ : ∃ j1 : Nat, j1 = j + 1 := ⟨_, rfl⟩
        have HT := Lib.hid (show things ks = things (ks.take j) ++ (kid.2.2 ++ things (ks.drop j1)) from by rw [hj1]; exact things_at hkid)
        have hmb : mi ≤ 1000000 := by have := HM.out; have := HMI.out; omega
        have hmbI : (mi : Int) ≤ 1000000 := by omega
        clear hl1 hkid B1 hg1
        by_cases hge : l1 ≤ mi
        · have hgeI : (l1 : Int) ≤ (mi : Int) := by omega
          have hws : IntKind.i64.wrap ((mi : Int) - (l1 : Int)) = ((mi - l1 : Nat) : Int) := by rw [IntKind.wrap_i64]; omega
          clear e1
          go_wp2_with fail
          go_roundg k
          case measure => omega
          case rel =>
            show FindI _ _ _ _ _ _ _
            exact ⟨rfl, j + 1, mi - l1, by first | rfl | (push_cast; rfl), by first | rfl | (congr 1; omega), by omega, by have := things_take_at HKID.out; rw [this, List.length_append]; have := HMI.out; have := HL1.out; omega⟩
        · have hgeI : ¬ (l1 : Int) ≤ (mi : Int) := by omega
          have HBO := Lib.hid (fun W (hw : Below w.heap.size w W) => both_ptr' (some ad) ks.length cap (ptrs ks) none 0 0 [] W K (fun _ => False) (HS.out.below hw) (SlV.nil _ W) (by simp; omega) (by simp))
          have HP := Lib.hid (show 0 < (ptrs ks).length by rw [List.length_map]; omega)
          go_wp2_with (go_at_call 47; ((with_reducible refine (HBO.out _ hBW).mono ?_); rintro e w1 ⟨v, rfl, hO, hb1⟩; rw [List.append_nil] at hO; obtain ⟨gv, cv, rfl, hgv, hI⟩ := hO.blk HP.out; have hlen : (ptrs ks).length = ks.length := (by simp); rw [hlen]; have B := blk_below HBX.out hb1; obtain ⟨⟨q0, q1, q2, q3⟩, f0, f1, f2, f3⟩ := box4 B; have hsz : w.heap.size < W0.heap.size := blk_lt HBX.out; have hne1 : gv ≠ w.heap.size := (by omega); have hne2 : w.heap.size ≠ gv := (by omega); have hB1 : Below w.heap.size w w1 := below_trans hBW hb1; have HI := Lib.hid hI; have HB := Lib.hid B; clear hO hI B hlen))
          obtain ⟨w2, hw2⟩ : ∃ w2, w2 = w1.setCell ⟨w.heap.size, 2, none⟩ (.slice (some ⟨gv, 0, none⟩) ks.length cv) := ⟨_, rfl⟩
          rw [← hw2]
          have hB2 : Below w.heap.size w w2 := by rw [hw2]; exact Below.setCell (p := ⟨w.heap.size, 2, none⟩) hB1 (by exact Nat.le_refl w.heap.size) _
          have HI2 := Lib.hid (show InB w2 _ gv cv (ptrs ks) by rw [hw2]; exact HI.out.keep fun _ => Below.heap_setCell w1 ⟨w.heap.size, 2, none⟩ _ gv hne1)
          have HB2 := Lib.hid (show w2.heap[w.heap.size]? = some (.cells #[.int .i64 (tn : Int), .int .i64 ((d : Int) + 2), .slice (some ⟨gv, 0, none⟩) ks.length cv, .slice none 0 0] NT (0, 0)) by rw [hw2]; exact blk_put HB.out 2 _ rfl)
          have hgv2 : gv < w2.heap.size := HI2.out.lt
          have hgs2 : w.heap.size < w2.heap.size := blk_lt HB2.out
          clear q0 q1 q2 q3 f0 f1 f2 f3 HI HB hw2 HBX k2' c1 d1
          have q2 := (box4 HB2.out).1.2.2.1
          have k2'' := cell_below k2 hB2
          have c2 := cell_below c0 hB2
          have hfr := HI2.out.frozen j
          have hce := HI2.out.cell (j := j) (u := .pointer kid.1) (by simp [HKID.out])
          have HREC := Lib.hid (fun W (hw : Below w.heap.size w W) => (show Calls Try.prog 50 #[.pointer (some ⟨g1, 0, none⟩), .int .i64 (mi : Int), .int .i64 x] W (Ret (fun v w' => ∃ r, v = .pointer r ∧ RRep (New (fun b => K b ∧ b < w.heap.size) W) w' d r kid.2.1 (kid.2.2.set mi x)) W) from by
            obtain ⟨hr, h8, h16⟩ := HKS.out kid (List.mem_of_getElem? HKID.out)
            rw [e1] at hr
            exact HIH.out _ _ _ _ mi W (hr.bound.below hw) h16 (by have := HL1.out; omega) (by have := HM.out; have h2 := congrArg List.length HT.out; rw [List.length_append, List.length_append] at h2; omega)))
          have HW := Lib.hid (Below.drew hB2)
          go_region_with (first
            | (go_at_call 50; (with_reducible refine (HREC.out _ HW.out).mono ?_); rintro e w3 ⟨v, rfl, ⟨r, rfl, hr⟩, hb3⟩; have hb23 : Below w2.heap.size w2 w3 := below_trans (Below.drew (Below.refl _ _)) hb3; have HR := Lib.hid (show RRep (New (fun b => K b ∧ b < w.heap.size) w2) w3 d r kid.2.1 (kid.2.2.set mi x) from hr); clear hr HREC; have HI3 := Lib.hid (HI2.out.below hb23); have HB3 := Lib.hid (blk_below HB2.out hb23); have q3 := (box4 HB3.out).1.2.2.1; have k3 := cell_below k2'' hb23; have c3 := cell_below c2 hb23; have hfr3 := HI3.out.frozen j; have hce3 := HI3.out.cell (j := j) (u := .pointer kid.1) (by simp [HKID.out]); have HB33 := Lib.hid (below_trans hB2 hb23))
            | fail)
          all_goals
            go_wp2_with fail
            go_returns
            have hB33 := HB33.out
            have hBF : Below w.heap.size w (w3.setCell ⟨gv, j, none⟩ (.pointer r)) := by go_grown
            have hgw : w.heap.size ≤ gv := by omega
            refine ⟨_, rfl, ⟨_, rfl, w.heap.size, _, ks.set j (r, kid.2.1, kid.2.2.set mi x), rfl, New.fresh (Nat.le_refl _), by rw [List.length_set, ← HTN.out]; exact blk_far HB3.out hne2 _, ?_, fun k hk => ?_, ?_, (List.length_set).symm⟩, hBF⟩
            · have h1 := (HI3.out.set j (.pointer r) rfl).slv (K := New K w) (New.fresh hgw)
              rw [show (ptrs ks).set j (.pointer r) = ptrs (ks.set j (r, kid.2.1, kid.2.2.set mi x)) from by simp [List.map_set], List.length_map, List.length_set] at h1
              exact h1
            · rcases List.mem_or_eq_of_mem_set hk with h | rfl
              · exact ⟨((HKS.out k h).1.below hBF).mono fun b h => New.old h, (HKS.out k h).2⟩
              · refine ⟨HR.out.keep (fun b hb _ => hb.elim (fun h => New.old h.1) fun h => New.fresh (Nat.le_trans hB2.size h)) fun b hb _ => Below.heap_setCell w3 ⟨gv, j, none⟩ _ b ?_, (HKS.out kid (List.mem_of_getElem? HKID.out)).2⟩
                rcases hb with h | h
                · have := h.2; show b ≠ gv; omega
                · have h' : w2.heap.size ≤ b := h; show b ≠ gv; omega
            · exact things_set HKID.out HMI.out (by have := HL1.out; omega)
end Go.Proofs.Ytcjpdjecgeenfaa.Ro
end

section
namespace Go.Proofs.Ytcjpdjecgeenfaa.Ro
open Go Go.RowKit Go.Proofs.Ytcjpdjecgeenfaa.Mem Go.Proofs.YtcjpdjecgeenfaaW.PrintWords

theorem set_node (x : Int) : ∀ (d : Nat), d ≤ 80 → ∀ (K : Nat → Prop) (p : Option Addr) (c : Nat) (xs : List Int) (m : Nat) (w : World), RRep K w d p c xs → c ≤ 16 → m < xs.length → xs.length ≤ 1000000 →
      Calls Try.prog 50 #[.pointer p, .int .i64 (m : Int), .int .i64 x] w (Ret (fun v w' => ∃ r, v = .pointer r ∧ RRep (New K w) w' d r c (xs.set m x)) w)
  | 0, _, K, p, c, xs, m, w, h, hc, hm, hl => set_leaf K p c xs m x w h hm hl
  | d + 1, hd, K, p, c, xs, m, w, h, hc, hm, hl => set_inner K d (by omega) x (set_node x d (by omega)) p c xs m w h hc hm hl

/-- A TREE WITH ANOTHER THING AT A PLACE. -/
theorem set_c (K : Nat → Prop) (p : Option Addr) (xs : List Int) (m : Nat) (x : Int) (w : World) (h : Tree K w p xs) (hm : m < xs.length) (hl : xs.length ≤ 1000000) :
    Calls Try.prog 50 #[.pointer p, .int .i64 (m : Int), .int .i64 x] w (Ret (fun v w' => ∃ r, v = .pointer r ∧ Tree (New K w) w' r (xs.set m x)) w) := by
  rcases h with ⟨rfl, rfl⟩ | ⟨d, c, h, ht⟩
  · simp at hm
  · refine (set_node x d (by have := h.deep ht hl; omega) K p c xs m w h ht.2.1 hm hl).mono ?_
    rintro e w' ⟨v, rfl, ⟨r, rfl, hr⟩, hb⟩
    exact ⟨_, rfl, ⟨r, rfl, Or.inr ⟨d, c, hr, ht⟩⟩, hb⟩

set_option maxHeartbeats 2000000 in
theorem setr_out (K : Nat → Prop) (p : Option Addr) (xs : List Int) (i x : Int) (w : World) (h : Tree K w p xs) (hi : i < 0 ∨ (xs.length : Int) ≤ i) :
    Calls Try.prog 41 #[rope p, .int .i64 i, .int .i64 x] w (Ret (fun v _ => v = .tuple #[rope none, .int .i64 4]) w) := by
  have HH := Lib.hid (fun W (hw : Below w.heap.size w W) => has_no K p xs i W (h.below hw) hi)
  clear h
  go_enter Try.func41, Try.ntmps41
  go_wp2_with (go_at_call 33; ((with_reducible refine (HH.out _ (by go_grown)).mono ?_); rintro e w1 ⟨v, rfl, rfl, hb1⟩; have B : w1.heap[w.heap.size + 1]? = some (.cells #[.pointer none] RT (0, 0)) := (hb1.block _ (by simp)).trans (heap_k1 w _ _); obtain ⟨bc, bf⟩ := box1 B; have HB := Lib.hid B; clear B; have hB1 : Below w.heap.size w w1 := below_trans (by go_grown) hb1))
  refine bodyPost_ret (results_rt2 rfl _ _ (w.heap.size + 1) none _ rfl (blk_put HB.out 0 _ rfl) rfl) rfl ?_
  exact ⟨_, rfl, rfl, by go_grown⟩

set_option maxHeartbeats 4000000 in
/-- A ROPE WITH ANOTHER THING AT A PLACE. -/
theorem setr_in (K : Nat → Prop) (p : Option Addr) (xs : List Int) (m : Nat) (x : Int) (w : World) (h : Tree K w p xs) (hm : m < xs.length) (hl : xs.length ≤ 1000000) :
    Calls Try.prog 41 #[rope p, .int .i64 (m : Int), .int .i64 x] w (Ret (fun v w' => ∃ u, v = .tuple #[u, .int .i64 0] ∧ RopeV (New K w) w' u (xs.set m x)) w) := by
  have HH := Lib.hid (fun W (hw : Below w.heap.size w W) => has_yes K p xs (m : Int) W (h.below hw) (by omega) (by omega))
  have HS := Lib.hid (fun W (hw : Below w.heap.size w W) => set_c (fun b => K b ∧ b < w.heap.size) p xs m x W (h.bound.below hw) hm hl)
  clear h
  go_enter Try.func41, Try.ntmps41
  go_wp2_with (first
    | (go_at_call 33; ((with_reducible refine (HH.out _ (by go_grown)).mono ?_); rintro e w1 ⟨v, rfl, rfl, hb1⟩; have B0 : w1.heap[w.heap.size]? = some (.cells #[.pointer p] RT (0, 0)) := (hb1.block _ (by simp; omega)).trans (blk_alloc (blk_new w _) _); have B : w1.heap[w.heap.size + 1]? = some (.cells #[.pointer none] RT (0, 0)) := (hb1.block _ (by simp)).trans (heap_k1 w _ _); obtain ⟨bc0, bf0⟩ := box1 B0; have HB := Lib.hid B; clear B B0; have hB1 : Below w.heap.size w w1 := below_trans (by go_grown) hb1; have hn1 : w.heap.size + 2 ≤ w1.heap.size := by have := hb1.size; simpa using this))
    | (go_at_call 50; ((with_reducible refine (HS.out _ hB1).mono ?_); rintro e w5 ⟨v, rfl, ⟨tr, rfl, htr⟩, hb5⟩; have HTr := Lib.hid (htr.mono (K' := Off K w 2) fun b h => h.elim Or.inl fun h => Or.inr (Nat.le_trans hn1 h)); clear htr; have HB5 := Lib.hid (blk_below HB.out hb5); obtain ⟨bc5, bf5⟩ := box1 HB5.out; have hB5 := below_trans hB1 hb5)))
  refine bodyPost_ret (results_rt2 rfl _ _ (w.heap.size + 1) tr _ rfl (blk_put HB5.out 0 _ rfl) rfl) rfl ?_
  refine ⟨_, rfl, ⟨_, rfl, tr, rfl, ?_⟩, by go_grown⟩
  exact (tree_far HTr.out (w.heap.size + 1) 0 (.pointer tr) (by rintro (h | h) <;> omega)).mono off_new
end Go.Proofs.Ytcjpdjecgeenfaa.Ro
end

section
namespace Go.Proofs.Ytcjpdjecgeenfaa.Ro
open Go Go.RowKit Go.Proofs.Ytcjpdjecgeenfaa.Mem Go.Proofs.YtcjpdjecgeenfaaW.PrintWords

set_option maxHeartbeats 1000000 in
theorem depth_c (K : Nat → Prop) (p : Option Addr) (xs : List Int) (w : World) (h : Tree K w p xs) (hl : xs.length ≤ 1000000) :
    Calls Try.prog 17 #[rope p] w (Ret (fun v _ => ∃ n : Nat, v = .int .i64 (n : Int) ∧ n ≤ 7 ∧ ((n = 0 ∧ xs = []) ∨ ∃ d c, n = d + 1 ∧ RRep K w d p c xs ∧ Top d c)) w) := by
  rcases h with ⟨rfl, rfl⟩ | ⟨d, c, h, ht⟩
  · go_enter Try.func17, Try.ntmps17
    go_wp2
    go_returns
    exact ⟨_, rfl, ⟨0, rfl, by omega, Or.inl ⟨rfl, by trivial⟩⟩, by go_grown⟩
  · have hd6 := h.deep ht hl
    have H := Lib.hid h
    obtain ⟨g, a0, b0, rfl, -, hg⟩ := h.head
    have hlt := blk_lt hg
    have dn : w.cell? ⟨g, 1, none⟩ = some (.int .i64 ((d : Int) + 1)) := blk_cell hg 1
    have dn' : (w.alloc (.cells #[.pointer (some ⟨g, 0, none⟩)] RT)).cell? ⟨g, 1, none⟩ = some (.int .i64 ((d : Int) + 1)) := cell_below dn ((Below.refl _ _).alloc (Nat.le_refl _) _)
    have HT := Lib.hid ht
    clear h ht hg
    go_enter Try.func17, Try.ntmps17
    go_wp2
    go_returns
    exact ⟨_, rfl, ⟨d + 1, by push_cast; rfl, by omega, Or.inr ⟨d, c, rfl, H.out, HT.out⟩⟩, by go_grown⟩

set_option maxHeartbeats 2000000 in
theorem get_out (K : Nat → Prop) (p : Option Addr) (xs : List Int) (i : Int) (w : World) (h : Tree K w p xs) (hi : i < 0 ∨ (xs.length : Int) ≤ i) :
    Calls Try.prog 18 #[rope p, .int .i64 i] w (Ret (fun v _ => v = .tuple #[.int .i64 0, .bool false]) w) := by
  have HH := Lib.hid (fun W (hw : Below w.heap.size w W) => has_no K p xs i W (h.below hw) hi)
  clear h
  go_enter Try.func18, Try.ntmps18
  go_wp2_with (go_at_call 33; ((with_reducible refine (HH.out _ (by go_grown)).mono ?_); rintro e w1 ⟨v, rfl, rfl, hb1⟩; have hB1 : Below w.heap.size w w1 := below_trans (by go_grown) hb1))
  go_returns
  exact ⟨_, rfl, rfl, hB1⟩

/-- what holds at each round's head: the thing lies below this node -/
def GetI (W : World) (K : Nat → Prop) (xs : List Int) (m : Nat) (d : Nat) (v1 v7 : Value) (wr : World) : Prop :=
  W = wr ∧ ∃ (q : Option Addr) (c : Nat) (ys : List Int) (j : Nat), v7 = .pointer q ∧ v1 = .int .i64 (j : Int) ∧ RRep K W d q c ys ∧ c ≤ 16 ∧ j < ys.length ∧ ys.length ≤ 1000000 ∧ ys[j]? = xs[m]?

set_option maxHeartbeats 8000000 in
/-- THE THING AT A PLACE. -/
theorem get_in (K : Nat → Prop) (p : Option Addr) (xs : List Int) (m : Nat) (x : Int) (w : World) (h : Tree K w p xs) (hx : xs[m]? = some x) (hl : xs.length ≤ 1000000) :
    Calls Try.prog 18 #[rope p, .int .i64 (m : Int)] w (Ret (fun v _ => v = .tuple #[.int .i64 x, .bool true]) w) := by
  have hm : m < xs.length := (List.getElem?_eq_some_iff.1 hx).1
  have HH := Lib.hid (fun W (hw : Below w.heap.size w W) => has_yes K p xs (m : Int) W (h.below hw) (by omega) (by omega))
  have HX := Lib.hid hx; clear hx
  rcases h with ⟨rfl, rfl⟩ | ⟨d0, c0, h, ht⟩
  · simp at hm
  have hd6 := h.deep ht hl
  have HM := Lib.hid (show m < xs.length ∧ xs.length ≤ 1000000 from ⟨hm, hl⟩)
  have HR := Lib.hid (show RRep K w d0 p c0 xs ∧ c0 ≤ 16 from ⟨h, ht.2.1⟩)
  clear h ht hm hl
  go_enter Try.func18, Try.ntmps18
  go_wp2_with (go_at_call 33; ((with_reducible refine (HH.out _ (by go_grown)).mono ?_); rintro e W ⟨v, rfl, rfl, hb1⟩; have B0 : W.heap[w.heap.size]? = some (.cells #[.pointer p] RT (0, 0)) := (hb1.block _ (by simp)).trans (blk_new w _); obtain ⟨bc0, bf0⟩ := box1 B0; have hB1 : Below w.heap.size w W := below_trans (by go_grown) hb1; clear B0 hb1))
  have HBW := Lib.hid hB1; clear hB1
  go_loopg [1, 7, 8] d0 (fun k v1 v7 v8 wr => Aside (GetI W K xs m k v1 v7 wr))
  case atStart =>
    show GetI _ _ _ _ _ _ _ _
    exact ⟨rfl, p, c0, xs, m, rfl, rfl, HR.out.1.below HBW.out, HR.out.2, HM.out.1, HM.out.2, rfl⟩
  case round =>
    obtain ⟨rfl, q, c, ys, jm, rfl, rfl, hr, hc, hjm, hyl, hyx⟩ := hrel.out
    have HYX := Lib.hid hyx; clear hyx
    clear hrel
    cases gk with
    | zero =>
      obtain ⟨g, s, rfl, hK, hg, hs, rfl⟩ := hr
      obtain ⟨A, n, cap, rfl⟩ := hs.form
      obtain rfl : n = ys.length := by have := hs.len; simpa using this
      obtain ⟨ad, rfl, hcell⟩ := hs.addr (by simp; omega)
      have dd : W.cell? ⟨g, 1, none⟩ = some (.int .i64 1) := blk_cell hg 1
      have k3 : W.cell? ⟨g, 3, none⟩ = some (.slice (some ad) ys.length cap) := blk_cell hg 3
      have cx : W.cell? (ad.add jm) = some (.int .i64 x) := hcell jm (.int .i64 x) (by rw [List.getElem?_map, HYX.out, HX.out]; rfl)
      have hjI : (jm : Int) < (ys.length : Int) := by omega
      clear hs hcell hg hK
      go_wp2_with fail
      go_returns
      exact ⟨_, rfl, rfl, HBW.out⟩
    | succ d =>
      obtain ⟨g, s, ks, rfl, hK, hg, hs, hks, rfl, rfl⟩ := hr
      obtain ⟨A, n, cap, rfl⟩ := hs.form
      obtain rfl : n = ks.length := by have := hs.len; simpa using this
      have hks0 : 0 < ks.length := List.length_pos_iff.2 (by rintro rfl; simp [things] at hjm)
      obtain ⟨ad, rfl, hcell⟩ := hs.addr (by simpa using hks0)
      have dd : W.cell? ⟨g, 1, none⟩ = some (.int .i64 ((d : Int) + 2)) := blk_cell hg 1
      have k2 : W.cell? ⟨g, 2, none⟩ = some (.slice (some ad) ks.length cap) := blk_cell hg 2
      have hd2 : (1 : Int) < (d : Int) + 2 := by omega
      have HM := Lib.hid (show jm < (things ks).length ∧ (things ks).length ≤ 1000000 from ⟨hjm, hyl⟩)
      have HC := Lib.hid hcell
      have HKS := Lib.hid hks
      clear hs hcell hks hg hK hjm hyl
      go_wp2_with fail
      go_loopg [1, 8] ks.length (fun k v1 v8 wr => Aside (FindI W ks jm k v1 v8 wr))
      case atStart =>
        show FindI _ _ _ _ _ _ _
        exact ⟨rfl, 0, jm, rfl, rfl, by omega, by simp [things]⟩
      case round =>
        obtain ⟨rfl, j, mi, rfl, rfl, hj, hmi⟩ := hrel.out
        have HMI := Lib.hid hmi; clear hmi
        clear hrel
        cases gk with
        | zero =>
          refine absurd HMI.out ?_
          have := HM.out
          rw [List.take_of_length_le (by omega)]
          omega
        | succ k =>
          have hjl : j < ks.length := by omega
          have hjI : (j : Int) < (ks.length : Int) := by omega
          obtain ⟨kid, hkid⟩ : ∃ kid, ks[j]? = some kid := ⟨_, List.getElem?_eq_getElem hjl⟩
          obtain ⟨g1, a1, b1, e1, hg1, B1⟩ := (HKS.out kid (List.mem_of_getElem? hkid)).1.head
          have c1 : W.cell? (ad.add j) = some (.pointer (some ⟨g1, 0, none⟩)) := by have := HC.out j (.pointer kid.1) (by simp [hkid]); rw [e1] at this; exact this
          obtain ⟨l1, hl1⟩ : ∃ l1 : Nat, l1 = kid.2.2.length := ⟨_, rfl⟩
          have d1 : W.cell? ⟨g1, 0, none⟩ = some (.int .i64 (l1 : Int)) := by rw [hl1]; exact blk_cell B1 0
          have HL1 := Lib.hid hl1
          have HKID := Lib.hid hkid
          obtain ⟨j1, hj1⟩ : ∃ j1 : Nat, j1 = j + 1 := ⟨_, rfl⟩
          have HT := Lib.hid (show things ks = things (ks.take j) ++ (kid.2.2 ++ things (ks.drop j1)) from by rw [hj1]; exact things_at hkid)
          have hmb : mi ≤ 1000000 := by have := HM.out; have := HMI.out; omega
          have hmbI : (mi : Int) ≤ 1000000 := by omega
          clear hl1 hkid B1 hg1
          by_cases hge : l1 ≤ mi
          · have hgeI : (l1 : Int) ≤ (mi : Int) := by omega
            have hws : IntKind.i64.wrap ((mi : Int) - (l1 : Int)) = ((mi - l1 : Nat) : Int) := by rw [IntKind.wrap_i64]; omega
            clear e1
            go_wp2_with fail
            go_roundg k
            case measure => omega
            case rel =>
              show FindI _ _ _ _ _ _ _
              exact ⟨rfl, j + 1, mi - l1, by first | rfl | (push_cast; rfl), by first | rfl | (congr 1; omega), by omega, by have := things_take_at HKID.out; rw [this, List.length_append]; have := HMI.out; have := HL1.out; omega⟩
          · have hgeI : ¬ (l1 : Int) ≤ (mi : Int) := by omega
            go_wp2_with fail
            go_roundg d
            case measure => omega
            case rel =>
              show GetI _ _ _ _ _ _ _ _
              obtain ⟨hr, h8, h16⟩ := HKS.out kid (List.mem_of_getElem? HKID.out)
              rw [e1] at hr
              refine ⟨rfl, _, _, _, mi, rfl, rfl, hr, h16, by have := HL1.out; omega, by have := HM.out; have h2 := congrArg List.length HT.out; rw [List.length_append, List.length_append] at h2; omega, ?_⟩
              rw [← HYX.out, HT.out, ← HMI.out, List.getElem?_append_right (by omega), Nat.add_sub_cancel_left, List.getElem?_append_left (by have := HL1.out; omega)]
end Go.Proofs.Ytcjpdjecgeenfaa.Ro
end

section
namespace Go.Proofs.Ytcjpdjecgeenfaa.Ro
open Go Go.RowKit Go.Proofs.Ytcjpdjecgeenfaa.Mem Go.Proofs.YtcjpdjecgeenfaaW.PrintWords Go.Proofs.Ytcjpdjecgeenfaa.PRopeDoes

/-- a list in memory of the call's own -/
def Own (base : Nat) (w : World) (v : Value) (xs : List Int) : Prop := w.ownsRow base 3 1 v xs.length (ints xs)

theorem Own.slv {base : Nat} {w : World} {v : Value} {xs : List Int} (h : Own base w v xs) : SlV (fun b => base ≤ b) w v (ints xs) := slv_of_row h (ints_one xs)

theorem Own.of_R {base : Nat} {w : World} {ok : Nat → Prop} {v : Value} {xs : List Int} (h : (Kd.int .i64).R 3 w base ok v xs) : Own base w v xs := Kd.own_of_R (enc := Value.int .i64) (h1 := fun _ => rfl) h

theorem slv_toC {K : Nat → Prop} {w : World} {A : Option Addr} {n c : Nat} {xs : List Int} (h : SlV K w (.slice A n c) (ints xs)) : n = xs.length ∧ (Kd.int .i64).C w A xs.length xs ∧ xs.length ≤ c := by
  have hn : n = xs.length := by have := h.len; simpa using this
  obtain ⟨A', c', he, h1, h2, h3, h4⟩ := h
  injection he with hA hl hc
  subst hA hc
  have hlen : (ints xs).length = xs.length := by simp
  rw [hlen] at h1 h3
  refine ⟨hn, Kd.C_of_reads (enc := Value.int .i64) (d := (0 : Int)) (h1 := fun _ => rfl) ⟨rfl, by unfold maxLen at h2; omega, fun hp => ?_⟩, h1⟩
  obtain ⟨ad, e, _, hcell⟩ := h3 hp
  refine ⟨ad, e, fun j hj => hcell j _ ?_⟩
  simp [List.getElem?_eq_getElem hj, List.getD_eq_getElem?_getD]

def runL (x : Int) (n : Nat) : List Int := (List.range n).map fun i : Nat => wrap64 (x + (i : Int))
@[simp] theorem runL_length (x : Int) (n : Nat) : (runL x n).length = n := by simp [runL]
theorem runL_succ (x : Int) (n : Nat) : runL x (n + 1) = runL x n ++ [wrap64 (x + (n : Int))] := by simp [runL, List.range_succ]

theorem run_l0 (x n : Int) (hn : n ≤ 1000000) : ∀ (i j : Nat), (j : Int) + i = max n 0 → ∀ k, i + 1 ≤ k → placketref07_Run.l0 k x (runL x j) n (j : Int) = some (runL x n.toNat) := by
  intro i
  induction i with
  | zero =>
    intro j hj k hk
    obtain ⟨k, rfl⟩ : ∃ k', k = k' + 1 := ⟨k - 1, by omega⟩
    rw [placketref07_Run.l0, if_neg (by omega)]
    obtain rfl : j = n.toNat := by omega
    rfl
  | succ i ih =>
    intro j hj k hk
    obtain ⟨k, rfl⟩ : ∃ k', k = k' + 1 := ⟨k - 1, by omega⟩
    have e1 : wrap64 ((j : Int) + 1) = ((j + 1 : Nat) : Int) := by rw [wrap_mid _ (by omega) (by omega)]; push_cast; rfl
    rw [placketref07_Run.l0, if_pos (by omega), if_pos (by rw [runL_length]; omega), e1, ← runL_succ]
    exact ih (j + 1) (by omega) k (by omega)

theorem run_c (x n : Int) (hn : n ≤ 1000000) (w : World) : Calls Try.prog 10 #[.int .i64 x, .int .i64 n] w (Ret (fun u w' => Own w.heap.size w' u (runL x n.toNat)) w) := by
  have h0 : placketref07_Run.f (n.toNat + 1) x n = some (runL x n.toNat) := run_l0 x n hn n.toNat 0 (by omega) _ (by omega)
  refine (placketref07_Run.calls (n.toNat + 1) x n _ w h0).mono ?_
  rintro e w' ⟨v, rfl, hR, hb⟩
  exact ⟨v, rfl, Own.of_R hR, hb⟩

theorem copied_f (xs : List Int) (hl : xs.length ≤ 1000000) : placketref07_Copied.f xs = some xs := by
  unfold placketref07_Copied.f
  simp only [Option.bind_some, List.length_nil, List.nil_append]
  rw [if_pos (by omega)]

theorem copied_c (K : Nat → Prop) (s : Value) (xs : List Int) (hl : xs.length ≤ 1000000) (w : World) (h : SlV K w s (ints xs)) : Calls Try.prog 45 #[s] w (Ret (fun u w' => Own w.heap.size w' u xs) w) := by
  obtain ⟨A, n, c, rfl⟩ := h.form
  obtain ⟨rfl, hC, hc⟩ := (slv_toC h)
  refine (placketref07_Copied.calls A c xs xs w hC hc (copied_f xs hl)).mono ?_
  rintro e w' ⟨v, rfl, hR, hb⟩
  exact ⟨v, rfl, Own.of_R hR, hb⟩

theorem rset_in (K : Nat → Prop) (s : Value) (xs : List Int) (hl : xs.length ≤ 1000000) (i x : Int) (hi : 0 ≤ i ∧ i < xs.length) (w : World) (h : SlV K w s (ints xs)) :
    Calls Try.prog 42 #[s, .int .i64 i, .int .i64 x] w (Ret (fun u w' => ∃ v, u = .tuple #[v, .int .i64 0] ∧ Own w.heap.size w' v (xs.set i.toNat x)) w) := by
  obtain ⟨A, n, c, rfl⟩ := h.form
  obtain ⟨rfl, hC, hc⟩ := (slv_toC h)
  have hf : placketref07_Set.f xs i x = some (xs.set i.toNat x, 0) := by
    unfold placketref07_Set.f
    rw [if_neg (by omega), if_neg (by omega), copied_f xs hl, Option.bind_some, if_pos (by omega), if_pos (by omega)]
  refine (placketref07_Set.calls A c xs i x _ _ w hC hc hf).mono ?_
  rintro e w' ⟨v, rfl, hR, hb⟩
  exact ⟨_, rfl, ⟨v, rfl, Own.of_R hR⟩, hb⟩

theorem rset_no (K : Nat → Prop) (s : Value) (xs : List Int) (i x : Int) (hi : ¬ (0 ≤ i ∧ i < xs.length)) (w : World) (h : SlV K w s (ints xs)) :
    Calls Try.prog 42 #[s, .int .i64 i, .int .i64 x] w (Ret (fun u w' => ∃ v, u = .tuple #[v, .int .i64 4] ∧ Own w.heap.size w' v []) w) := by
  obtain ⟨A, n, c, rfl⟩ := h.form
  obtain ⟨rfl, hC, hc⟩ := (slv_toC h)
  have hf : placketref07_Set.f xs i x = some ([], 4) := by
    unfold placketref07_Set.f
    by_cases h0 : i < 0
    · rw [if_pos h0]
    · rw [if_neg h0, if_pos (by omega)]
  refine (placketref07_Set.calls A c xs i x _ _ w hC hc hf).mono ?_
  rintro e w' ⟨v, rfl, hR, hb⟩
  exact ⟨_, rfl, ⟨v, rfl, Own.of_R hR⟩, hb⟩

theorem rget_in (K : Nat → Prop) (s : Value) (xs : List Int) (i x : Int) (h0 : 0 ≤ i) (hx : xs[i.toNat]? = some x) (w : World) (h : SlV K w s (ints xs)) :
    Calls Try.prog 19 #[s, .int .i64 i] w (Ret (fun v w' => v = .tuple #[.int .i64 x, .bool true]) w) := by
  obtain ⟨A, n, c, rfl⟩ := h.form
  obtain ⟨rfl, hC, hc⟩ := (slv_toC h)
  have hl : i.toNat < xs.length := (List.getElem?_eq_some_iff.1 hx).1
  have hf : placketref07_Get.f xs i = some (x, true) := by
    unfold placketref07_Get.f
    rw [if_neg (by omega), if_neg (by omega), if_pos (by omega), if_pos (by omega)]
    simp [rd, List.getD_eq_getElem?_getD, hx]
  refine (placketref07_Get.calls A c xs i _ _ w hC hc hf).mono ?_
  rintro e w' ⟨rfl, hD⟩
  exact ⟨_, rfl, rfl, hD.below⟩

theorem rget_no (K : Nat → Prop) (s : Value) (xs : List Int) (i : Int) (hi : ¬ (0 ≤ i ∧ i < xs.length)) (w : World) (h : SlV K w s (ints xs)) :
    Calls Try.prog 19 #[s, .int .i64 i] w (Ret (fun v w' => v = .tuple #[.int .i64 0, .bool false]) w) := by
  obtain ⟨A, n, c, rfl⟩ := h.form
  obtain ⟨rfl, hC, hc⟩ := (slv_toC h)
  have hf : placketref07_Get.f xs i = some (0, false) := by
    unfold placketref07_Get.f
    by_cases h0 : i < 0
    · rw [if_pos h0]
    · rw [if_neg h0, if_pos (by omega)]
  refine (placketref07_Get.calls A c xs i _ _ w hC hc hf).mono ?_
  rintro e w' ⟨rfl, hD⟩
  exact ⟨_, rfl, rfl, hD.below⟩

theorem same_l0 (xs : List Int) (hl : xs.length ≤ 1000000) : ∀ (i j : Nat), j + i = xs.length → ∀ k, i + 1 ≤ k → placketref07_Same.l0 k xs xs (xs.length : Int) (j : Int) = some true := by
  intro i
  induction i with
  | zero =>
    intro j hj k hk
    obtain ⟨k, rfl⟩ : ∃ k', k = k' + 1 := ⟨k - 1, by omega⟩
    rw [placketref07_Same.l0, if_neg (by omega)]
  | succ i ih =>
    intro j hj k hk
    obtain ⟨k, rfl⟩ : ∃ k', k = k' + 1 := ⟨k - 1, by omega⟩
    have e1 : wrap64 ((j : Int) + 1) = ((j + 1 : Nat) : Int) := by rw [wrap_mid _ (by omega) (by omega)]; push_cast; rfl
    rw [placketref07_Same.l0, if_pos (by omega), if_pos (by omega), if_pos (by omega), if_pos (by omega), if_pos rfl, e1]
    exact ih (j + 1) (by omega) k (by omega)

theorem rsame_c (K K' : Nat → Prop) (s u : Value) (xs : List Int) (hl : xs.length ≤ 1000000) (w : World) (h : SlV K w s (ints xs)) (h' : SlV K' w u (ints xs)) :
    Calls Try.prog 13 #[s, u] w (Ret (fun v w' => v = .bool true) w) := by
  obtain ⟨A, n, c, rfl⟩ := h.form
  obtain ⟨rfl, hC, hc⟩ := (slv_toC h)
  obtain ⟨A', n', c', rfl⟩ := h'.form
  obtain ⟨rfl, hC', hc'⟩ := (slv_toC h')
  have hf : placketref07_Same.f (xs.length + 1) xs xs = some true := by
    unfold placketref07_Same.f
    rw [if_pos rfl]
    exact same_l0 xs hl xs.length 0 (by omega) _ (by omega)
  refine (placketref07_Same.calls _ A c xs A' c' xs _ w hC hc hC' hc' hf).mono ?_
  rintro e w' ⟨rfl, hD⟩
  exact ⟨_, rfl, rfl, hD.below⟩

theorem join_f (xs ys : List Int) (hl : xs.length ≤ 1000000) (hl' : ys.length ≤ 1000000) : placketref08_Join.f xs ys = some (xs ++ ys) := by
  unfold placketref08_Join.f
  rw [copied_f xs hl, Option.bind_some, if_pos (by omega)]

theorem rjoin_c (K K' : Nat → Prop) (s u : Value) (xs ys : List Int) (hl : xs.length ≤ 1000000) (hl' : ys.length ≤ 1000000) (w : World) (h : SlV K w s (ints xs)) (h' : SlV K' w u (ints ys)) :
    Calls Try.prog 32 #[s, u] w (Ret (fun v w' => Own w.heap.size w' v (xs ++ ys)) w) := by
  obtain ⟨A, n, c, rfl⟩ := h.form
  obtain ⟨rfl, hC, hc⟩ := (slv_toC h)
  obtain ⟨A', n', c', rfl⟩ := h'.form
  obtain ⟨rfl, hC', hc'⟩ := (slv_toC h')
  refine (placketref08_Join.calls A c xs A' c' ys _ w hC hc hC' hc' (join_f xs ys hl hl')).mono ?_
  rintro e w' ⟨v, rfl, hR, hb⟩
  exact ⟨v, rfl, Own.of_R hR, hb⟩

theorem rinsert_in (K : Nat → Prop) (s : Value) (xs : List Int) (hl : xs.length ≤ 900000) (i x : Int) (hi : 0 ≤ i ∧ i ≤ xs.length) (w : World) (h : SlV K w s (ints xs)) :
    Calls Try.prog 40 #[s, .int .i64 i, .int .i64 x] w (Ret (fun u w' => ∃ v, u = .tuple #[v, .int .i64 0] ∧ Own w.heap.size w' v (xs.take i.toNat ++ x :: xs.drop i.toNat)) w) := by
  obtain ⟨A, n, c, rfl⟩ := h.form
  obtain ⟨rfl, hC, hc⟩ := (slv_toC h)
  have hf : placketref08_Insert.f 1 xs i x = some (xs.take i.toNat ++ x :: xs.drop i.toNat, 0) := by
    unfold placketref08_Insert.f
    rw [if_neg (by omega), placketref08_Insert.j0, if_neg (by simp; omega), if_pos (by omega), if_pos (by omega), join_f _ _ (by rw [List.length_take]; omega) (by simp), Option.bind_some, join_f _ _ (by simp; omega) (by simp; omega), Option.bind_some]
    simp
  refine (placketref08_Insert.calls 1 A c xs i x _ _ w hC hc hf).mono ?_
  rintro e w' ⟨v, rfl, hR, hb⟩
  exact ⟨_, rfl, ⟨v, rfl, Own.of_R hR⟩, hb⟩

theorem rinsert_no (K : Nat → Prop) (s : Value) (xs : List Int) (i x : Int) (hi : ¬ (0 ≤ i ∧ i ≤ xs.length)) (w : World) (h : SlV K w s (ints xs)) :
    Calls Try.prog 40 #[s, .int .i64 i, .int .i64 x] w (Ret (fun u w' => ∃ v, u = .tuple #[v, .int .i64 4] ∧ Own w.heap.size w' v []) w) := by
  obtain ⟨A, n, c, rfl⟩ := h.form
  obtain ⟨rfl, hC, hc⟩ := (slv_toC h)
  have hf : placketref08_Insert.f 1 xs i x = some ([], 4) := by
    unfold placketref08_Insert.f
    by_cases h0 : i < 0
    · rw [if_pos h0, placketref08_Insert.j0, if_pos rfl]
    · rw [if_neg h0, placketref08_Insert.j0, if_pos (by simp; omega)]
  refine (placketref08_Insert.calls 1 A c xs i x _ _ w hC hc hf).mono ?_
  rintro e w' ⟨v, rfl, hR, hb⟩
  exact ⟨_, rfl, ⟨v, rfl, Own.of_R hR⟩, hb⟩

theorem rremove_in (K : Nat → Prop) (s : Value) (xs : List Int) (hl : xs.length ≤ 1000000) (i : Int) (hi : 0 ≤ i ∧ i < xs.length) (w : World) (h : SlV K w s (ints xs)) :
    Calls Try.prog 43 #[s, .int .i64 i] w (Ret (fun u w' => ∃ v, u = .tuple #[v, .int .i64 0] ∧ Own w.heap.size w' v (xs.take i.toNat ++ (xs.drop i.toNat).drop 1)) w) := by
  obtain ⟨A, n, c, rfl⟩ := h.form
  obtain ⟨rfl, hC, hc⟩ := (slv_toC h)
  have hf : placketref08_Remove.f xs i = some (xs.take i.toNat ++ (xs.drop i.toNat).drop 1, 0) := by
    unfold placketref08_Remove.f
    have e : wrap64 (i + 1) = i + 1 := wrap_mid _ (by omega) (by omega)
    rw [if_neg (by omega), if_neg (by omega), if_pos (by omega), if_pos (by omega), e, if_pos (by omega), if_pos (by omega), join_f _ _ (by rw [List.length_take]; omega) (by rw [List.length_drop]; omega), Option.bind_some, List.drop_drop, show (i + 1).toNat = i.toNat + 1 by omega]
  refine (placketref08_Remove.calls A c xs i _ _ w hC hc hf).mono ?_
  rintro e w' ⟨v, rfl, hR, hb⟩
  exact ⟨_, rfl, ⟨v, rfl, Own.of_R hR⟩, hb⟩

theorem rremove_no (K : Nat → Prop) (s : Value) (xs : List Int) (i : Int) (hi : ¬ (0 ≤ i ∧ i < xs.length)) (w : World) (h : SlV K w s (ints xs)) :
    Calls Try.prog 43 #[s, .int .i64 i] w (Ret (fun u w' => ∃ v, u = .tuple #[v, .int .i64 4] ∧ Own w.heap.size w' v []) w) := by
  obtain ⟨A, n, c, rfl⟩ := h.form
  obtain ⟨rfl, hC, hc⟩ := (slv_toC h)
  have hf : placketref08_Remove.f xs i = some ([], 4) := by
    unfold placketref08_Remove.f
    by_cases h0 : i < 0
    · rw [if_pos h0]
    · rw [if_neg h0, if_pos (by omega)]
  refine (placketref08_Remove.calls A c xs i _ _ w hC hc hf).mono ?_
  rintro e w' ⟨v, rfl, hR, hb⟩
  exact ⟨_, rfl, ⟨v, rfl, Own.of_R hR⟩, hb⟩

/-- where a cut's end lies -/
def bnd (a n : Int) : Int := if a < 0 then (if n + a < 0 then 0 else n + a) else (if a ≤ n then a else n)
theorem bnd_in (a n : Int) (h : 0 ≤ n) : 0 ≤ bnd a n ∧ bnd a n ≤ n := by unfold bnd; split <;> split <;> omega
/-- the cut's end behind -/
def bnd2 (a b n : Int) : Int := if bnd a n ≤ bnd b n then bnd b n else bnd a n
theorem bnd2_in (a b n : Int) (h : 0 ≤ n) : bnd a n ≤ bnd2 a b n ∧ bnd2 a b n ≤ n := by
  have h1 := bnd_in a n h
  have h2 := bnd_in b n h
  unfold bnd2; split <;> omega
/-- a list's piece -/
def cutL (xs : List Int) (a b : Int) : List Int := (xs.take (bnd2 a b xs.length).toNat).drop (bnd a xs.length).toNat
def Wf (a : Int) : Prop := -9223372036854775808 ≤ a ∧ a ≤ 9223372036854775807

theorem wrap_wide (a : Int) (h : Wf a) : wrap64 a = a := by unfold Wf at h; unfold wrap64; omega

theorem bound_f (a n : Int) (h : Wf a) (h0 : 0 ≤ n) (hn : n ≤ 1000000) : num_bound.f a n = some (bnd a n) := by
  unfold num_bound.f bnd
  by_cases h1 : a < 0
  · rw [if_pos h1, if_pos h1, wrap_wide _ (by unfold Wf at *; omega)]
    unfold mx
    congr 1
    split <;> omega
  · rw [if_neg h1, if_neg h1]
    unfold mn
    congr 1
    split <;> omega

theorem edge_f (a n : Int) (h : Wf a) (h0 : 0 ≤ n) (hn : n ≤ 1000000) : placketref01_edge.f a n = some (bnd a n) := by
  unfold placketref01_edge.f bnd
  have e : wrap64 (-n) = -n := wrap_wide _ (by unfold Wf at *; omega)
  by_cases h1 : a < 0
  · have e2 : wrap64 (n + a) = n + a := wrap_wide _ (by unfold Wf at *; omega)
    rw [if_neg (by omega), if_neg (by omega), if_pos h1, e, e2]
    by_cases h2 : n + a < 0
    · rw [if_pos (by omega), if_pos h2]
    · rw [if_neg (by omega), if_neg h2]
  · rw [if_neg h1]
    by_cases h2 : a ≤ n
    · rw [if_neg (by omega), if_pos (by omega), if_pos h2]
    · rw [if_pos (by omega), if_neg h2]

theorem mx_bnd (a b n : Int) : mx (bnd a n) (bnd b n) = bnd2 a b n := by unfold mx bnd2; split <;> omega

theorem ncut_f (a b n : Int) (ha : Wf a) (hb : Wf b) (h0 : 0 ≤ n) (hn : n ≤ 1000000) : num_Cut.f a b n = some (bnd a n, bnd2 a b n) := by
  unfold num_Cut.f
  have e : mx 0 n = n := by unfold mx; omega
  rw [e, bound_f a n ha h0 hn, Option.bind_some, bound_f b n hb h0 hn, Option.bind_some, mx_bnd]

theorem rcut_f (a b n : Int) (ha : Wf a) (hb : Wf b) (h0 : 0 ≤ n) (hn : n ≤ 1000000) : placketref01_Cut.f a b n = some (bnd a n, bnd2 a b n) := by
  unfold placketref01_Cut.f
  have e : mx n 0 = n := by unfold mx; omega
  rw [e, edge_f a n ha h0 hn, Option.bind_some, edge_f b n hb h0 hn, Option.bind_some, mx_bnd]

theorem rslice_c (K : Nat → Prop) (s : Value) (xs : List Int) (hl : xs.length ≤ 1000000) (a b : Int) (ha : Wf a) (hb : Wf b) (w : World) (h : SlV K w s (ints xs)) :
    Calls Try.prog 44 #[s, .int .i64 a, .int .i64 b] w (Ret (fun v w' => Own w.heap.size w' v (cutL xs a b)) w) := by
  obtain ⟨A, n, c, rfl⟩ := h.form
  obtain ⟨rfl, hC, hc⟩ := (slv_toC h)
  have h1 := bnd_in a xs.length (by omega)
  have h2 := bnd2_in a b xs.length (by omega)
  have hf : placketref08_Slice.f xs a b = some (cutL xs a b) := by
    unfold placketref08_Slice.f
    rw [rcut_f a b _ ha hb (by omega) (by omega), Option.bind_some, if_pos (by exact h1.1), if_pos (by exact h2.1), if_pos (by exact h2.2), copied_f _ (by rw [List.length_drop, List.length_take]; omega), Option.bind_some]
    rfl
  refine (placketref08_Slice.calls A c xs a b _ w hC hc hf).mono ?_
  rintro e w' ⟨v, rfl, hR, hb⟩
  exact ⟨_, rfl, Own.of_R hR, hb⟩
end Go.Proofs.Ytcjpdjecgeenfaa.Ro
end

section
namespace Go.Proofs.Ytcjpdjecgeenfaa.Ro
open Go Go.RowKit Go.Proofs.Ytcjpdjecgeenfaa.Mem Go.Proofs.YtcjpdjecgeenfaaW.PrintWords Go.Proofs.YtcjpdjecgeenfaaW.PrintMore
attribute [local go_sem] min2_int min_two

/-- what holds at each round's head -/
def OfI (w : World) (xs : List Int) (k : Nat) (v4 : Value) (wr : World) : Prop :=
  ∃ (j : Nat) (q : Option Addr), v4 = .int .i64 (j : Int) ∧ ((k = 0 ∧ xs.length ≤ j) ∨ (1 ≤ k ∧ j + 16 * (k - 1) < xs.length ∧ xs.length ≤ j + 16 * k)) ∧ j ≤ xs.length + 16 ∧ wr.heap[w.heap.size]? = some (.cells #[.pointer none] RT (0, 0)) ∧ wr.heap[w.heap.size + 1]? = some (.cells #[.pointer q] RT (0, 0)) ∧
    Tree (Off (fun _ => False) w 2) wr q (xs.take j) ∧ Below w.heap.size w wr

set_option maxHeartbeats 8000000 in
/-- THE ROPE OF THINGS. -/
theorem of_c (K : Nat → Prop) (v : Value) (xs : List Int) (w : World) (h : SlV K w v (ints xs)) (hl : xs.length ≤ 1000000) :
    Calls Try.prog 9 #[v] w (Ret (fun u w' => RopeV (Fresh w) w' u xs) w) := by
  obtain ⟨A, n, cap, rfl⟩ := h.form
  obtain rfl : n = xs.length := by have := h.len; simpa using this
  have HS := Lib.hid h; clear h
  have hlI : (xs.length : Int) ≤ 1000000 := by omega
  go_enter Try.func9, Try.ntmps9
  go_wp2_with fail
  go_loopg [4] ((xs.length + 15) / 16) (fun k v4 wr => Aside (OfI w xs k v4 wr))
  case atStart =>
    show OfI _ _ _ _ _
    exact ⟨0, none, rfl, by omega, by omega, blk_alloc (blk_new w _) _, heap_k1 w _ _, Or.inl ⟨rfl, by simp⟩, by go_grown⟩
  case round =>
    obtain ⟨j, q, rfl, hk, hj16, B0, B1, hT, hB⟩ := hrel.out
    clear hrel
    have HB0 := Lib.hid B0; clear B0
    have HBR := Lib.hid B1; clear B1
    have HTR := Lib.hid hT; clear hT
    obtain ⟨k0, f0⟩ := box1 HB0.out
    obtain ⟨k1, f1⟩ := box1 HBR.out
    have hjb : (j : Int) ≤ 1000016 := by omega
    have hj0 : (0 : Int) ≤ (j : Int) := by omega
    have HN := Lib.hid (show w.heap.size + 2 ≤ wr.heap.size from blk_lt HBR.out)
    cases gk with
    | zero =>
      have hjn : ¬ (j : Int) < (xs.length : Int) := by omega
      have HJN := Lib.hid (show xs.length ≤ j by omega)
      clear hk
      go_wp2_with fail
      refine bodyPost_ret (results_c1 rfl _ _ w.heap.size RT #[.pointer q] (0, 0) _ rfl (blk_put HB0.out 0 _ rfl) Try.underlying25 rfl (by kernel_rfl)) rfl ?_
      refine ⟨_, rfl, ⟨q, rfl, ?_⟩, by go_grown⟩
      have := (tree_far HTR.out w.heap.size 0 (.pointer q) (by rintro (h | h) <;> omega)).mono (K' := Fresh w) fun b h => h.elim (fun h => absurd h.1 id) fun h => by show w.heap.size ≤ b; omega
      rwa [List.take_of_length_le HJN.out] at this
    | succ k =>
      have hjl : j < xs.length := by omega
      have hjn : (j : Int) < (xs.length : Int) := by omega
      obtain ⟨ad, rfl, -⟩ := HS.out.addr (by simp; omega)
      have hcap : xs.length ≤ cap := by obtain ⟨_, _, e, h3, _⟩ := HS.out; injection e with _ _ e3; subst e3; simpa using h3
      have hcj : ¬ cap = j := by omega
      obtain ⟨j16, hj16e⟩ : ∃ j16 : Nat, j16 = j + 16 := ⟨_, rfl⟩
      have hc5 : IntKind.i64.wrap ((j : Int) + 16) = (j16 : Int) := by rw [IntKind.wrap_i64]; omega
      have hnc : (xs.length : Int) ≤ (cap : Int) := by omega
      clear k0 f0 k1 f1
      go_wp2_with fail
      by_cases hlt : xs.length < j16
      · have hltI : (xs.length : Int) < (j16 : Int) := by omega
        have ht := (HS.out.below hB).take xs.length (by rw [List.length_map]; omega)
        have hd := ht.drop j (by rw [List.length_take, List.length_map]; omega)
        rw [← List.map_take, ← List.map_drop] at hd
        obtain ⟨ys, hys⟩ : ∃ ys, ys = (xs.take xs.length).drop j := ⟨_, rfl⟩
        rw [← hys] at hd
        
        have hyl : ys.length = xs.length - j := by rw [hys, List.length_drop, List.length_take]; omega
        have htk : xs.take (j + 16) = xs.take j ++ ys := by
          rw [hys, List.drop_take]
          have h1 : xs.take (j + 16) = xs.take xs.length := by rw [List.take_of_length_le (by omega), List.take_of_length_le (Nat.le_refl _)]
          rw [h1]
          have h2 := List.take_append_drop j (xs.take xs.length)
          rw [List.take_take, Nat.min_eq_left (by omega), List.drop_take] at h2
          exact h2.symm
        have HTK := Lib.hid htk
        have HBO := Lib.hid (fun W (hw : Below wr.heap.size wr W) => both_int' (some (ad.add j)) (xs.length - j) (cap - j) (ints ys) none 0 0 [] W K (fun _ => False) (hd.below hw) (SlV.nil _ W) (by simp; omega) (by simp))
        have HYN := Lib.hid (show ys ≠ [] from List.ne_nil_of_length_pos (by omega))
        have HYT := Lib.hid (show Top 0 ys.length from ⟨by omega, by omega, Or.inl rfl⟩)
        have HJL := Lib.hid (show (xs.take j ++ ys).length ≤ 1000000 by rw [List.length_append, List.length_take]; omega)
        clear ht hd hys hyl htk
        have HW := Lib.hid (Below.drew (Below.refl wr.heap.size wr))
        have hse : (j : Int) ≤ (xs.length : Int) := by omega
        have hec : (xs.length : Int) ≤ (cap : Int) := by omega
        have HT := Lib.hid (HTR.out.below HW.out)
        have HBX := Lib.hid (blk_below HBR.out HW.out)
        obtain ⟨kx, fx⟩ := box1 HBX.out
        go_region_with (first
          | (go_at_call 28; (with_reducible refine (HBO.out _ HW.out).mono ?_); rintro e wx ⟨v, rfl, hO, hbx⟩; obtain ⟨Aa, na, ca, rfl⟩ := hO.slv.form; have HSa := Lib.hid (hO.slv.mono (K' := Fresh wr) fun b h => Nat.le_trans HW.out.size h); clear hO HBO; (try replace HSa := Lib.hid (HSa.out.below hbx)); (try replace HRa := Lib.hid (HRa.out.below hbx)); (try replace HT := Lib.hid (HT.out.below hbx)); replace HBX := Lib.hid (blk_below HBX.out hbx); have HW := Lib.hid (below_trans HW.out hbx); (try clear kx fx); obtain ⟨kx, fx⟩ := box1 HBX.out; clear hbx)
          | (go_at_call 27; (with_reducible refine (leaf_some _ _ _ _ ys _ (by have := HSa.out; simpa using this) HYN.out).mono ?_); rintro e wx ⟨v, rfl, ⟨pa, rfl, hr⟩, hbx⟩; clear HSa; have HRa := Lib.hid (show Tree (Off (fun _ => False) w 2) wx pa ys from Or.inr ⟨0, _, hr.mono (K' := Off (fun _ => False) w 2) fun b h => Or.inr (h.elim (Nat.le_trans HN.out) fun h => Nat.le_trans HN.out (Nat.le_trans HW.out.size h)), HYT.out⟩); clear hr; (try replace HSa := Lib.hid (HSa.out.below hbx)); (try replace HRa := Lib.hid (HRa.out.below hbx)); (try replace HT := Lib.hid (HT.out.below hbx)); replace HBX := Lib.hid (blk_below HBX.out hbx); have HW := Lib.hid (below_trans HW.out hbx); (try clear kx fx); obtain ⟨kx, fx⟩ := box1 HBX.out; clear hbx)
          | (go_at_call 26; (with_reducible refine (join_off (fun _ => False) w 2 _ _ (xs.take j) ys _ (Nat.le_trans HN.out HW.out.size) HT.out HRa.out HJL.out).mono ?_); rintro e wx ⟨v, rfl, ⟨pr, rfl, hr⟩, hbx⟩; clear HRa HT; have HT := Lib.hid hr; clear hr; (try replace HSa := Lib.hid (HSa.out.below hbx)); (try replace HRa := Lib.hid (HRa.out.below hbx)); (try replace HT := Lib.hid (HT.out.below hbx)); replace HBX := Lib.hid (blk_below HBX.out hbx); have HW := Lib.hid (below_trans HW.out hbx); (try clear kx fx); obtain ⟨kx, fx⟩ := box1 HBX.out; clear hbx)
          | fail)
        all_goals
          go_wp2_with fail
          go_roundg k
          case measure => omega
          case rel =>
            show OfI _ _ _ _ _
            have hb0 := below_trans hB HW.out
            refine ⟨j + 16, pr, by first | rfl | (push_cast; rfl), by omega, by omega, blk_far (blk_below HB0.out HW.out) (by show w.heap.size ≠ w.heap.size + 1; omega) _, blk_put HBX.out 0 _ rfl, ?_, hb0.setCell (by show w.heap.size ≤ w.heap.size + 1; omega) _⟩
            rw [HTK.out]
            exact tree_far HT.out (w.heap.size + 1) 0 (.pointer pr) (by rintro (h | h) <;> omega)

      · have hltI : ¬ (xs.length : Int) < (j16 : Int) := by omega
        have ht := (HS.out.below hB).take j16 (by rw [List.length_map]; omega)
        have hd := ht.drop j (by rw [List.length_take, List.length_map]; omega)
        rw [← List.map_take, ← List.map_drop] at hd
        obtain ⟨ys, hys⟩ : ∃ ys, ys = (xs.take j16).drop j := ⟨_, rfl⟩
        rw [← hys] at hd
        rw [show j16 - j = 16 from by omega] at hd
        have hyl : ys.length = j16 - j := by rw [hys, List.length_drop, List.length_take]; omega
        have htk : xs.take (j + 16) = xs.take j ++ ys := by
          rw [hys, List.drop_take]
          have h1 : xs.take (j + 16) = xs.take j16 := by rw [show j16 = j + 16 from by omega]
          rw [h1]
          have h2 := List.take_append_drop j (xs.take j16)
          rw [List.take_take, Nat.min_eq_left (by omega), List.drop_take] at h2
          exact h2.symm
        have HTK := Lib.hid htk
        have HBO := Lib.hid (fun W (hw : Below wr.heap.size wr W) => both_int' (some (ad.add j)) 16 (cap - j) (ints ys) none 0 0 [] W K (fun _ => False) (hd.below hw) (SlV.nil _ W) (by simp; omega) (by simp))
        have HYN := Lib.hid (show ys ≠ [] from List.ne_nil_of_length_pos (by omega))
        have HYT := Lib.hid (show Top 0 ys.length from ⟨by omega, by omega, Or.inl rfl⟩)
        have HJL := Lib.hid (show (xs.take j ++ ys).length ≤ 1000000 by rw [List.length_append, List.length_take]; omega)
        clear ht hd hys hyl htk
        have HW := Lib.hid (Below.drew (Below.refl wr.heap.size wr))
        have hse : (j : Int) ≤ (j16 : Int) := by omega
        have hec : (j16 : Int) ≤ (cap : Int) := by omega
        have HT := Lib.hid (HTR.out.below HW.out)
        have HBX := Lib.hid (blk_below HBR.out HW.out)
        obtain ⟨kx, fx⟩ := box1 HBX.out
        go_region_with (first
          | (go_at_call 28; (with_reducible refine (HBO.out _ HW.out).mono ?_); rintro e wx ⟨v, rfl, hO, hbx⟩; obtain ⟨Aa, na, ca, rfl⟩ := hO.slv.form; have HSa := Lib.hid (hO.slv.mono (K' := Fresh wr) fun b h => Nat.le_trans HW.out.size h); clear hO HBO; (try replace HSa := Lib.hid (HSa.out.below hbx)); (try replace HRa := Lib.hid (HRa.out.below hbx)); (try replace HT := Lib.hid (HT.out.below hbx)); replace HBX := Lib.hid (blk_below HBX.out hbx); have HW := Lib.hid (below_trans HW.out hbx); (try clear kx fx); obtain ⟨kx, fx⟩ := box1 HBX.out; clear hbx)
          | (go_at_call 27; (with_reducible refine (leaf_some _ _ _ _ ys _ (by have := HSa.out; simpa using this) HYN.out).mono ?_); rintro e wx ⟨v, rfl, ⟨pa, rfl, hr⟩, hbx⟩; clear HSa; have HRa := Lib.hid (show Tree (Off (fun _ => False) w 2) wx pa ys from Or.inr ⟨0, _, hr.mono (K' := Off (fun _ => False) w 2) fun b h => Or.inr (h.elim (Nat.le_trans HN.out) fun h => Nat.le_trans HN.out (Nat.le_trans HW.out.size h)), HYT.out⟩); clear hr; (try replace HSa := Lib.hid (HSa.out.below hbx)); (try replace HRa := Lib.hid (HRa.out.below hbx)); (try replace HT := Lib.hid (HT.out.below hbx)); replace HBX := Lib.hid (blk_below HBX.out hbx); have HW := Lib.hid (below_trans HW.out hbx); (try clear kx fx); obtain ⟨kx, fx⟩ := box1 HBX.out; clear hbx)
          | (go_at_call 26; (with_reducible refine (join_off (fun _ => False) w 2 _ _ (xs.take j) ys _ (Nat.le_trans HN.out HW.out.size) HT.out HRa.out HJL.out).mono ?_); rintro e wx ⟨v, rfl, ⟨pr, rfl, hr⟩, hbx⟩; clear HRa HT; have HT := Lib.hid hr; clear hr; (try replace HSa := Lib.hid (HSa.out.below hbx)); (try replace HRa := Lib.hid (HRa.out.below hbx)); (try replace HT := Lib.hid (HT.out.below hbx)); replace HBX := Lib.hid (blk_below HBX.out hbx); have HW := Lib.hid (below_trans HW.out hbx); (try clear kx fx); obtain ⟨kx, fx⟩ := box1 HBX.out; clear hbx)
          | fail)
        all_goals
          go_wp2_with fail
          go_roundg k
          case measure => omega
          case rel =>
            show OfI _ _ _ _ _
            have hb0 := below_trans hB HW.out
            refine ⟨j + 16, pr, by first | rfl | (push_cast; rfl), by omega, by omega, blk_far (blk_below HB0.out HW.out) (by show w.heap.size ≠ w.heap.size + 1; omega) _, blk_put HBX.out 0 _ rfl, ?_, hb0.setCell (by show w.heap.size ≤ w.heap.size + 1; omega) _⟩
            rw [HTK.out]
            exact tree_far HT.out (w.heap.size + 1) 0 (.pointer pr) (by rintro (h | h) <;> omega)
end Go.Proofs.Ytcjpdjecgeenfaa.Ro
end

section
namespace Go.Proofs.Ytcjpdjecgeenfaa.Ro
open Go Go.RowKit Go.Proofs.Ytcjpdjecgeenfaa.Mem Go.Proofs.YtcjpdjecgeenfaaW.PrintWords Go.Proofs.YtcjpdjecgeenfaaW.PrintMore
attribute [local go_sem] min2_int min_two

theorem join_none (q : Option Addr) (w : World) :
    Calls Try.prog 26 #[.pointer none, .pointer q] w (Ret (fun v w' => v = .pointer q) w) := by
  go_enter Try.func26, Try.ntmps26
  go_wp2
  go_returns
  exact ⟨_, rfl, rfl, Below.refl _ _⟩

/-- what holds at each round's head -/
def OfS (w : World) (xs : List Int) (k : Nat) (v4 : Value) (wr : World) : Prop :=
  ∃ (j : Nat) (q : Option Addr), v4 = .int .i64 (j : Int) ∧ ((k = 1 ∧ j = 0 ∧ q = none) ∨ (k = 0 ∧ j = 16 ∧ RRep (Off (fun _ => False) w 2) wr 0 q 16 xs)) ∧ wr.heap[w.heap.size]? = some (.cells #[.pointer none] RT (0, 0)) ∧ wr.heap[w.heap.size + 1]? = some (.cells #[.pointer q] RT (0, 0)) ∧ Below w.heap.size w wr

set_option maxHeartbeats 8000000 in
/-- THE ROPE OF SIXTEEN THINGS. -/
theorem of_16 (K : Nat → Prop) (v : Value) (xs : List Int) (w : World) (h : SlV K w v (ints xs)) (hl : xs.length = 16) :
    Calls Try.prog 9 #[v] w (Ret (fun u w' => ∃ p, u = rope p ∧ RRep (Fresh w) w' 0 p 16 xs) w) := by
  obtain ⟨A, n, cap, rfl⟩ := h.form
  obtain rfl : n = xs.length := by have := h.len; simpa using this
  have HS := Lib.hid h; clear h
  have hlI : (xs.length : Int) = 16 := by omega
  go_enter Try.func9, Try.ntmps9
  go_wp2_with fail
  go_loopg [4] 1 (fun k v4 wr => Aside (OfS w xs k v4 wr))
  case atStart =>
    show OfS _ _ _ _ _
    exact ⟨0, none, rfl, Or.inl ⟨rfl, rfl, rfl⟩, blk_alloc (blk_new w _) _, heap_k1 w _ _, by go_grown⟩
  case round =>
    obtain ⟨j, q, rfl, hk, B0, B1, hB⟩ := hrel.out
    clear hrel
    have HB0 := Lib.hid B0; clear B0
    have HBR := Lib.hid B1; clear B1
    have HN := Lib.hid (show w.heap.size + 2 ≤ wr.heap.size from blk_lt HBR.out)
    cases gk with
    | zero =>
      obtain ⟨k0, f0⟩ := box1 HB0.out
      obtain ⟨k1, f1⟩ := box1 HBR.out
      obtain ⟨rfl, hr⟩ : j = 16 ∧ RRep (Off (fun _ => False) w 2) wr 0 q 16 xs := by rcases hk with h | h; exact absurd h.1 (by omega); exact h.2
      have HR := Lib.hid hr; clear hr hk
      go_wp2_with fail
      refine bodyPost_ret (results_c1 rfl _ _ w.heap.size RT #[.pointer q] (0, 0) _ rfl (blk_put HB0.out 0 _ rfl) Try.underlying25 rfl (by kernel_rfl)) rfl ?_
      refine ⟨_, rfl, ⟨q, rfl, ?_⟩, by go_grown⟩
      exact HR.out.keep (K' := Fresh w) (fun b h _ => h.elim (fun h => absurd h.1 id) fun h => by show w.heap.size ≤ b; omega) fun b hb _ => Below.heap_setCell wr ⟨w.heap.size, 0, none⟩ _ b (by show b ≠ w.heap.size; rcases hb with h | h <;> omega)
    | succ k =>
      obtain ⟨rfl, hj0, rfl⟩ : k = 0 ∧ j = 0 ∧ q = none := by rcases hk with h | h; exact ⟨by omega, h.2⟩; exact absurd h.1 (by omega)
      clear hk
      have hjl : j < xs.length := by omega
      have hjn : (j : Int) < (xs.length : Int) := by omega
      obtain ⟨ad, rfl, -⟩ := HS.out.addr (by simp; omega)
      have hcap : xs.length ≤ cap := by obtain ⟨_, _, e, h3, _⟩ := HS.out; injection e with _ _ e3; subst e3; simpa using h3
      have hcj : ¬ cap = j := by omega
      have hnc : (xs.length : Int) ≤ (cap : Int) := by omega
      have hjb : (j : Int) ≤ 1000016 := by omega
      have hj0I : (0 : Int) ≤ (j : Int) := by omega
      obtain ⟨j16, hj16e⟩ : ∃ j16 : Nat, j16 = j + 16 := ⟨_, rfl⟩
      have hc5 : IntKind.i64.wrap ((j : Int) + 16) = (j16 : Int) := by rw [IntKind.wrap_i64]; omega
      go_wp2_with fail
      have hltI : ¬ (xs.length : Int) < (j16 : Int) := by omega
      have ht := (HS.out.below hB).take 16 (by rw [List.length_map]; omega)
      have hd := ht.drop j (by rw [List.length_take, List.length_map]; omega)
      have hx0 : ((ints xs).take 16).drop j = ints xs := by rw [hj0, List.drop_zero, List.take_of_length_le (by rw [List.length_map]; omega)]
      rw [hx0, show 16 - j = 16 from by omega] at hd
      have HBO := Lib.hid (fun W (hw : Below wr.heap.size wr W) => both_int' (some (ad.add j)) 16 (cap - j) (ints xs) none 0 0 [] W K (fun _ => False) (hd.below hw) (SlV.nil _ W) (by simp; omega) (by simp))
      have HYN := Lib.hid (show xs ≠ [] from List.ne_nil_of_length_pos (by omega))
      have HXL := Lib.hid hl
      have HJ0 := Lib.hid hj0
      clear ht hd hx0
      have HW := Lib.hid (Below.drew (Below.refl wr.heap.size wr))
      have hse : (j : Int) ≤ (j16 : Int) := by omega
      have hec : (j16 : Int) ≤ (cap : Int) := by omega
      have HBX := Lib.hid (blk_below HBR.out HW.out)
      obtain ⟨kx, fx⟩ := box1 HBX.out
      clear hj0 hl hlI
      go_region_with (first
        | (go_at_call 28; (with_reducible refine (HBO.out _ HW.out).mono ?_); rintro e wx ⟨v, rfl, hO, hbx⟩; obtain ⟨Aa, na, ca, rfl⟩ := hO.slv.form; have HSa := Lib.hid (hO.slv.mono (K' := Fresh wr) fun b h => Nat.le_trans HW.out.size h); clear hO HBO; (try replace HSa := Lib.hid (HSa.out.below hbx)); (try replace HRa := Lib.hid (HRa.out.below hbx)); replace HBX := Lib.hid (blk_below HBX.out hbx); have HW := Lib.hid (below_trans HW.out hbx); (try clear kx fx); obtain ⟨kx, fx⟩ := box1 HBX.out; clear hbx)
        | (go_at_call 27; (with_reducible refine (leaf_some _ _ _ _ xs _ (by have := HSa.out; simpa using this) HYN.out).mono ?_); rintro e wx ⟨v, rfl, ⟨pa, rfl, hr⟩, hbx⟩; clear HSa; have HRa := Lib.hid (show RRep (Off (fun _ => False) w 2) wx 0 pa xs.length xs from hr.mono (K' := Off (fun _ => False) w 2) fun b h => Or.inr (h.elim (Nat.le_trans HN.out) fun h => Nat.le_trans HN.out (Nat.le_trans HW.out.size h))); clear hr; (try replace HSa := Lib.hid (HSa.out.below hbx)); (try replace HRa := Lib.hid (HRa.out.below hbx)); replace HBX := Lib.hid (blk_below HBX.out hbx); have HW := Lib.hid (below_trans HW.out hbx); (try clear kx fx); obtain ⟨kx, fx⟩ := box1 HBX.out; clear hbx)
        | (go_at_call 26; (with_reducible refine (join_none _ _).mono ?_); rintro e wx ⟨v, rfl, rfl, hbx⟩; (try replace HSa := Lib.hid (HSa.out.below hbx)); (try replace HRa := Lib.hid (HRa.out.below hbx)); replace HBX := Lib.hid (blk_below HBX.out hbx); have HW := Lib.hid (below_trans HW.out hbx); (try clear kx fx); obtain ⟨kx, fx⟩ := box1 HBX.out; clear hbx)
        | fail)
      all_goals
        go_wp2_with fail
        go_roundg 0
        case measure => omega
        case rel =>
          show OfS _ _ _ _ _
          have hb0 := below_trans hB HW.out
          refine ⟨j + 16, pa, by first | rfl | (push_cast; rfl), Or.inr ⟨rfl, by rw [HJ0.out], ?_⟩, blk_far (blk_below HB0.out HW.out) (by show w.heap.size ≠ w.heap.size + 1; omega) _, blk_put HBX.out 0 _ rfl, hb0.setCell (by show w.heap.size ≤ w.heap.size + 1; omega) _⟩
          have := HRa.out.keep (w' := World.setCell _ ⟨w.heap.size + 1, 0, none⟩ (.pointer pa)) (fun _ h _ => h) fun b hb _ => Below.heap_setCell _ ⟨w.heap.size + 1, 0, none⟩ (.pointer pa) b (by show b ≠ w.heap.size + 1; rcases hb with h | h <;> omega)
          rw [HXL.out] at this
          exact this
end Go.Proofs.Ytcjpdjecgeenfaa.Ro
end

section
namespace Go.Proofs.Ytcjpdjecgeenfaa.Ro
open Go Go.RowKit Go.Shelf Go.Proofs.Ytcjpdjecgeenfaa.Mem Go.Proofs.YtcjpdjecgeenfaaW.PrintWords

attribute [local go_sem] Oper.semAt_some

theorem room_of_none {F : Fence} (hd : F.depth = none) (k : Nat) : F.room k := fun d h => by rw [hd] at h; cases h
theorem RoundIn.anyDepth {F : Fence} (hd : F.depth = none) {m m' : Nat} {P : Program} {l : Nat} {f : FuncId} {tmps : Array Value} {assign body : Code} {w : World} {R : Ending → World → Prop}
    (h : RoundIn F m P l f tmps assign body w R) : RoundIn F m' P l f tmps assign body w R := ⟨h.1, fun c cs _ => h.2 c cs (room_of_none hd _)⟩
theorem YieldAt.anyDepth {F : Fence} (hd : F.depth = none) {m : Nat} (m' : Nat) {P : Program} {l : Nat} {args : Array Value} {W : World} {R : Ending → World → Prop} (h : YieldAt F m P l args W R) : YieldAt F m' P l args W R := by
  obtain ⟨fn, tmps, assign, body, hy, hR⟩ := h
  exact ⟨fn, tmps, assign, body, hy, RoundIn.anyDepth hd hR⟩

/-- things with their places, from a place on -/
def idx : Nat → List Int → List (Int × Int)
  | _, [] => []
  | a, x :: xs => ((a : Int), x) :: idx (a + 1) xs
theorem idx_append (a : Nat) (xs ys : List Int) : idx a (xs ++ ys) = idx a xs ++ idx (a + xs.length) ys := by
  induction xs generalizing a with
  | nil => rfl
  | cons x xs ih => show _ :: idx (a + 1) (xs ++ ys) = _ :: (idx (a + 1) xs ++ _); rw [ih]; congr 3; simp; omega
theorem idx_length (a : Nat) (xs : List Int) : (idx a xs).length = xs.length := by
  induction xs generalizing a with
  | nil => rfl
  | cons x xs ih => show (idx (a + 1) xs).length + 1 = _; rw [ih]; rfl
theorem idx_snoc (a : Nat) (xs : List Int) (x : Int) : idx a (xs ++ [x]) = idx a xs ++ [(((a + xs.length : Nat) : Int), x)] := idx_append a xs [x]

/-- the blocks of K lie as they lay -/
def Kept (K : Nat → Prop) (w w' : World) : Prop := ∀ b, K b → w'.heap[b]? = w.heap[b]?
theorem Kept.refl (K : Nat → Prop) (w : World) : Kept K w w := fun _ _ => rfl
theorem Kept.trans {K : Nat → Prop} {a b c : World} (h : Kept K a b) (k : Kept K b c) : Kept K a c := fun x hx => (k x hx).trans (h x hx)

/-- what a round owes -/
def Rounds (K : Nat → Prop) (l N : Nat) (J Jx : List (Int × Int) → World → Prop) : Prop := ∀ m pre (x : Int × Int) W, J pre W → pre.length < N → YieldAt Fence.wide m Try.prog l #[.int .i64 x.1, .int .i64 x.2] W fun e W' =>
  (e = .returned (.bool true) ∧ J (pre ++ [x]) W' ∧ Kept K W W') ∨ (e = .returned (.bool false) ∧ Jx (pre ++ [x]) W')

/-- what going through things comes to -/
def Gone (K : Nat → Prop) (J Jx : List (Int × Int) → World → Prop) (pre zs : List (Int × Int)) (W : World) (e : Ending) (W' : World) : Prop :=
  (e = .returned (.bool true) ∧ J (pre ++ zs) W' ∧ Kept K W W') ∨ (e = .returned (.bool false) ∧ ∃ q, q <+: zs ∧ Jx (pre ++ q) W')

theorem RRep.old {K : Nat → Prop} {w w' : World} (hb : Kept K w w') {d c : Nat} {p : Option Addr} {xs : List Int} (h : RRep K w d p c xs) : RRep K w' d p c xs := RRep.keep (fun _ h _ => h) (fun b hk _ => hb b hk) h
theorem SlV.old {K : Nat → Prop} {w w' : World} {v : Value} {xs : List Value} (hb : Kept K w w') (h : SlV K w v xs) : SlV K w' v xs := h.keep fun b hk _ => hb b hk

set_option maxRecDepth 100000 in
set_option maxHeartbeats 4000000 in
theorem each_leaf (K : Nat → Prop) (l N : Nat) (J Jx : List (Int × Int) → World → Prop) (hY : Rounds K l N J Jx) (n : Nat) (p : Option Addr) (c : Nat) (xs : List Int) (from' : Nat) (pre : List (Int × Int)) (W : World)
    (hN : RRep K W 0 p c xs) (hJ : J pre W) (hlen : pre.length + xs.length ≤ N) (hf : from' ≤ 1000000) (hl : xs.length ≤ 1000000) :
    CallsIn Fence.wide n Try.prog 30 #[.pointer p, .int .i64 (from' : Int), .func (.yield l) #[] #[]] W (Gone K J Jx pre (idx from' xs) W) := by
  obtain ⟨g, s, rfl, hKg, hg, hs, rfl⟩ := hN
  obtain ⟨A, m, cap, rfl⟩ := hs.form
  have hm : m = xs.length := by have := hs.len; simpa using this
  have HK2 := Lib.hid (fun wr (hB : Kept K W wr) => (show wr.cell? ⟨g, 2, none⟩ = some (.slice none 0 0) from blk_cell ((hB g hKg).trans hg) 2))
  have hc3 : W.cell? ⟨g, 3, none⟩ = some (.slice A m cap) := blk_cell hg 3
  have HS := Lib.hid hs; clear hs
  have HY := Lib.hid hY; clear hY
  have HL := Lib.hid hm; clear hm hg
  have hmb : (m : Int) ≤ 1000000 := by have := HL.out; omega
  refine callsIn_of_wp Try.func30 rfl trivial ?_ rfl
  simp only [Try.ntmps30, List.size_toArray, List.length_cons, List.length_nil, Nat.reduceAdd, Nat.reduceSub, Array.replicate_succ, Array.replicate_zero, List.push_toArray, List.append_toArray, List.nil_append, List.cons_append]
  gi_wp2
  gi_loopw [16] (fun i wr => ∃ k : Nat, i = .int .i64 (k : Int) ∧ k ≤ m ∧ Hid (J (pre ++ idx from' (xs.take k)) wr) ∧ Kept K W wr) (fun i _ => m - (intOf i).toNat)
  case atStart => exact ⟨0, rfl, by omega, Lib.hid (by simpa [idx] using hJ), Kept.refl _ _⟩
  case round =>
    obtain ⟨k, rfl, hk, hJk, hB⟩ := hrel
    by_cases hk32 : k = m
    · subst hk32
      have k2 := HK2.out wr hB
      gi_wp2
      gi_loopw [34] (fun i wr => i = .int .i64 0 ∧ Hid (J (pre ++ idx from' (xs.take k)) wr) ∧ Kept K W wr) (fun i _ => 0)
      case atStart => exact ⟨rfl, hJk, hB⟩
      case round =>
        obtain ⟨rfl, hJk, hB⟩ := hrel
        gi_wp2
        go_ret
        refine .inl ⟨rfl, ?_, hB⟩
        have := hJk.out
        rwa [List.take_of_length_le (by rw [HL.out]; exact Nat.le_refl _)] at this
    · have hk31 : k < m := by omega
      have hkI : (k : Int) < (m : Int) := by omega
      obtain ⟨x, hx⟩ : ∃ x, xs[k]? = some x := ⟨_, List.getElem?_eq_getElem (by rw [← HL.out]; exact hk31)⟩
      obtain ⟨ad, rfl, hcell⟩ := (SlV.old hB HS.out).addr (by have := HL.out; simp; omega)
      have hcx : wr.cell? (ad.add k) = some (.int .i64 x) := hcell k _ (by simp [hx])
      have htk : idx from' (xs.take (k + 1)) = idx from' (xs.take k) ++ [((from' : Int) + (k : Int), x)] := by
        rw [List.take_add_one, hx, Option.toList_some, idx_snoc, List.length_take, ← HL.out, Nat.min_eq_left hk]; push_cast; rfl
      have hlk : (pre ++ idx from' (xs.take k)).length < N := by rw [List.length_append, idx_length, List.length_take, ← HL.out, Nat.min_eq_left hk]; have := HL.out; omega
      have hpx : pre ++ idx from' (xs.take k) ++ [((from' : Int) + (k : Int), x)] = pre ++ idx from' (xs.take (k + 1)) := by rw [htk, List.append_assoc]
      have hpf : idx from' (xs.take (k + 1)) <+: idx from' xs := ⟨idx (from' + (xs.take (k + 1)).length) (xs.drop (k + 1)), by rw [← idx_append, List.take_append_drop]⟩
      obtain ⟨fn, tmps, assign, body, hy, hR⟩ := HY.out (n - 1) _ ((from' : Int) + (k : Int), x) wr hJk.out hlk
      dsimp only at hy
      have HR := Lib.hid hR; clear hR
      have HPX := Lib.hid hpx; clear hpx htk hlk hcell
      have HPF := Lib.hid hpf; clear hpf hx
      gi_wp2
      refine ⟨fun h => (Bool.false_ne_true h).elim, HR.out.mono ?_⟩
      rintro e W3 (⟨rfl, hJ3, hk3⟩ | ⟨rfl, hJx3⟩)
      · have HJ3 := Lib.hid hJ3; clear hJ3
        gi_wp2
        go_roundw
        case rel =>
          have hnew : Hid (J (pre ++ idx from' (xs.take (k + 1))) W3) := Lib.hid (by rw [← HPX.out]; exact HJ3.out)
          exact ⟨k + 1, by first | rfl | (push_cast; rfl), by omega, hnew, hB.trans hk3⟩
        case measure => simp [intOf]; omega
      · have HJ3 := Lib.hid hJx3; clear hJx3
        gi_wp2
        go_ret
        exact .inr ⟨rfl, _, HPF.out, by rw [← HPX.out]; exact HJ3.out⟩

/-- what each comes to at a depth -/
def EachP (K : Nat → Prop) (l N : Nat) (J Jx : List (Int × Int) → World → Prop) (d : Nat) : Prop :=
  ∀ (n : Nat) (p : Option Addr) (c : Nat) (xs : List Int) (from' : Nat) (pre : List (Int × Int)) (W : World), RRep K W d p c xs → c ≤ 16 → J pre W → pre.length + xs.length ≤ N → from' + xs.length ≤ 1000000 →
    CallsIn Fence.wide n Try.prog 30 #[.pointer p, .int .i64 (from' : Int), .func (.yield l) #[] #[]] W (Gone K J Jx pre (idx from' xs) W)

set_option maxRecDepth 100000 in
set_option maxHeartbeats 4000000 in
theorem each_inner (K : Nat → Prop) (l N : Nat) (J Jx : List (Int × Int) → World → Prop) (d : Nat) (ih : EachP K l N J Jx d) : EachP K l N J Jx (d + 1) := by
  intro n p c xs from' pre W hN hc hJ hlen hf
  obtain ⟨g, s, ks, rfl, hKg, hg, hs, hks, rfl, rfl⟩ := hN
  obtain ⟨A, m, cap, rfl⟩ := hs.form
  have hm : m = ks.length := by have := hs.len; simpa using this
  have hc3 : W.cell? ⟨g, 3, none⟩ = some (.slice none 0 0) := blk_cell hg 3
  have HK2 := Lib.hid (fun wr (hB : Kept K W wr) => (show wr.cell? ⟨g, 2, none⟩ = some (.slice A m cap) from blk_cell ((hB g hKg).trans hg) 2))
  have HS := Lib.hid hs; clear hs
  have HKS := Lib.hid hks; clear hks hg
  have HI := Lib.hid ih; clear ih
  have HM := Lib.hid hm; clear hm
  have hm16 : (m : Int) ≤ 16 := by have := HM.out; omega
  have HF := Lib.hid (show pre.length + (things ks).length ≤ N ∧ from' + (things ks).length ≤ 1000000 from ⟨hlen, hf⟩)
  clear hlen hf
  refine callsIn_of_wp Try.func30 rfl trivial ?_ rfl
  simp only [Try.ntmps30, List.size_toArray, List.length_cons, List.length_nil, Nat.reduceAdd, Nat.reduceSub, Array.replicate_succ, Array.replicate_zero, List.push_toArray, List.append_toArray, List.nil_append, List.cons_append]
  gi_wp2
  gi_loopw [16] (fun i wr => i = .int .i64 0 ∧ Hid (J pre wr) ∧ Kept K W wr) (fun i _ => 0)
  case atStart => exact ⟨rfl, Lib.hid hJ, Kept.refl _ _⟩
  case round =>
    obtain ⟨rfl, hJk, hB⟩ := hrel
    have k2 := HK2.out wr hB
    gi_wp2
    gi_loopw [1, 34] (fun f i wr => ∃ k : Nat, i = .int .i64 (k : Int) ∧ f = .int .i64 ((from' + (things (ks.take k)).length : Nat) : Int) ∧ k ≤ m ∧ Hid (J (pre ++ idx from' (things (ks.take k))) wr) ∧ Kept K W wr) (fun f i _ => m - (intOf i).toNat)
    case atStart => exact ⟨0, rfl, by simp [things], by omega, Lib.hid (by simpa [idx, things] using hJk.out), hB⟩
    case round =>
      clear hJk k2 hB
      obtain ⟨k, rfl, rfl, hk, hJk, hB⟩ := hrel
      by_cases hk32 : k = m
      · subst hk32
        gi_wp2
        go_ret
        refine .inl ⟨rfl, ?_, hB⟩
        have := hJk.out
        rwa [List.take_of_length_le (by have := HM.out; omega)] at this
      · have hk31 : k < m := by omega
        have hkm : (k : Int) < (m : Int) := by omega
        obtain ⟨kid, hkid⟩ : ∃ x, ks[k]? = some x := ⟨_, List.getElem?_eq_getElem (by have := HM.out; omega)⟩
        obtain ⟨ad, rfl, hcell⟩ := (SlV.old hB HS.out).addr (by have := HM.out; simp; omega)
        have hcx : wr.cell? (ad.add k) = some (.pointer kid.1) := hcell k _ (by simp [hkid])
        clear hcell
        obtain ⟨hr, h8, h16⟩ := HKS.out kid (List.mem_of_getElem? hkid)
        have htk := things_take_at hkid
        obtain ⟨t0, ht0⟩ : ∃ t0 : Nat, t0 = (things (ks.take k)).length := ⟨_, rfl⟩
        have hall : things ks = things (ks.take (k + 1)) ++ things (ks.drop (k + 1)) := by show List.flatMap _ ks = _; rw [← List.flatMap_append, List.take_append_drop]
        have hlen2 := congrArg List.length hall
        rw [List.length_append, htk, List.length_append, ← ht0] at hlen2
        rw [← ht0]
        have hlq : (pre ++ idx from' (things (ks.take k))).length + kid.2.2.length ≤ N := by rw [List.length_append, idx_length, ← ht0]; have := HF.out; omega
        have hfq : from' + t0 + kid.2.2.length ≤ 1000000 := by have := HF.out; omega
        have hid : idx from' (things (ks.take (k + 1))) = idx from' (things (ks.take k)) ++ idx (from' + t0) kid.2.2 := by rw [htk, idx_append, ← ht0]
        have hids : idx from' (things ks) = idx from' (things (ks.take (k + 1))) ++ idx (from' + (things (ks.take (k + 1))).length) (things (ks.drop (k + 1))) := by rw [← idx_append, ← hall]
        have hcall := HI.out (n - 1) kid.1 kid.2.1 kid.2.2 (from' + t0) (pre ++ idx from' (things (ks.take k))) wr (RRep.old hB hr) h16 hJk.out hlq hfq
        obtain ⟨g1, a1, b1, e1, hg1, B1⟩ := hr.head
        have HC1 := Lib.hid (fun wr (hB : Kept K W wr) => (show wr.cell? ⟨g1, 0, none⟩ = some (.int .i64 (kid.2.2.length : Int)) from blk_cell ((hB g1 hg1).trans B1) 0))
        have hnx : (from' + (things (ks.take (k + 1))).length : Nat) = from' + t0 + kid.2.2.length := by rw [htk, List.length_append, ← ht0]; omega
        have HNX := Lib.hid hnx
        have HC := Lib.hid hcall; clear hcall hlq
        have HID := Lib.hid hid; have HIDS := Lib.hid hids
        have hb1 : ((from' + t0 : Nat) : Int) ≤ 1000000 := by omega
        have hb2 : ((from' + t0 : Nat) : Int) + (kid.2.2.length : Int) ≤ 1000000 := by omega
        clear hid hids hall htk hlen2 hnx hr B1 hg1 hkid hfq ht0
        rw [e1] at HC hcx
        gi_wp2_with fail
        refine ⟨trivial, fun h => (Bool.false_ne_true h).elim, HC.out.mono ?_⟩
        rintro e W3 (⟨rfl, hJ3, hk3⟩ | ⟨rfl, q, hq, hJx3⟩)
        · have HJ3 := Lib.hid hJ3; clear hJ3
          have c1 := HC1.out W3 (hB.trans hk3)
          gi_wp2
          go_roundw
          case rel =>
            have hnew : Hid (J (pre ++ idx from' (things (ks.take (k + 1)))) W3) := Lib.hid (by rw [HID.out, ← List.append_assoc]; exact HJ3.out)
            exact ⟨k + 1, by first | rfl | (push_cast; rfl), by rw [HNX.out]; first | rfl | (push_cast; rfl), by omega, hnew, hB.trans hk3⟩
          case measure => simp [intOf]; omega
        · have HJ3 := Lib.hid hJx3; clear hJx3
          have HQ := Lib.hid hq; clear hq
          gi_wp2
          go_ret
          obtain ⟨r, hr⟩ := HQ.out
          exact .inr ⟨rfl, idx from' (things (ks.take k)) ++ q, ⟨r ++ idx (from' + (things (ks.take (k + 1))).length) (things (ks.drop (k + 1))), by rw [HIDS.out, HID.out, ← hr]; simp⟩, by rw [← List.append_assoc]; exact HJ3.out⟩

theorem each_c (K : Nat → Prop) (l N : Nat) (J Jx : List (Int × Int) → World → Prop) (hY : Rounds K l N J Jx) (d : Nat) : EachP K l N J Jx d := by
  induction d with
  | zero =>
    intro n p c xs from' pre W hN hc hJ hlen hf
    exact each_leaf K l N J Jx hY n p c xs from' pre W hN hJ hlen (by omega) (by omega)
  | succ d ih => exact each_inner K l N J Jx d ih
end Go.Proofs.Ytcjpdjecgeenfaa.Ro
end

section
namespace Go.Proofs.Ytcjpdjecgeenfaa.Ro
open Go Go.RowKit Go.Shelf Go.Proofs.Ytcjpdjecgeenfaa.Mem Go.Proofs.YtcjpdjecgeenfaaW.PrintWords

attribute [local go_sem] Oper.semAt_some

/-- what the function that All gives comes to -/
def AllP (J Jx : List (Int × Int) → World → Prop) (zs : List (Int × Int)) (e : Ending) (W' : World) : Prop :=
  (∃ v, e = .returned v) ∧ ((∃ ys, ys = zs ∧ J ys W') ∨ (∃ pre, pre <+: zs ∧ Jx pre W'))

set_option maxRecDepth 100000 in
set_option maxHeartbeats 4000000 in
theorem all1_c (K : Nat → Prop) (l Bn n : Nat) (p : Option Addr) (xs : List Int) (J Jx : List (Int × Int) → World → Prop) (hY : Rounds K l xs.length J Jx) (W : World)
    (hKB : K Bn) (hbox : W.heap[Bn]? = some (.cells #[.pointer p] RT (0, 0))) (hV : Tree K W p xs) (h0 : J [] W) (hl : xs.length ≤ 1000000) :
    CallsIn Fence.wide n Try.prog 29 #[.func (.yield l) #[] #[], .pointer (some ⟨Bn, 0, none⟩)] W (AllP J Jx (idx 0 xs)) := by
  obtain ⟨k0, f0⟩ := box1 hbox
  rcases hV with ⟨rfl, rfl⟩ | ⟨d, c, hr, ht⟩
  · have HJ := Lib.hid h0; clear h0 hY hbox hl
    refine callsIn_of_wp Try.func29 rfl trivial ?_ rfl
    simp only [Try.ntmps29, List.size_toArray, List.length_cons, List.length_nil, Nat.reduceAdd, Nat.reduceSub, Array.replicate_succ, Array.replicate_zero, List.push_toArray, List.append_toArray, List.nil_append, List.cons_append]
    gi_wp2
    go_end0
    exact ⟨⟨_, rfl⟩, .inl ⟨[], rfl, HJ.out⟩⟩
  · obtain ⟨g, a0, b0, rfl, -, -⟩ := hr.head
    have hE : CallsIn Fence.wide (n - 1) Try.prog 30 #[.pointer (some ⟨g, 0, none⟩), .int .i64 0, .func (.yield l) #[] #[]] W (Gone K J Jx [] (idx 0 xs) W) := each_c K l xs.length J Jx hY d (n - 1) _ c xs 0 [] W hr ht.2.1 h0 (by simp) (by omega)
    have HE := Lib.hid hE; clear hE hr ht h0 hY hbox hl
    refine callsIn_of_wp Try.func29 rfl trivial ?_ rfl
    simp only [Try.ntmps29, List.size_toArray, List.length_cons, List.length_nil, Nat.reduceAdd, Nat.reduceSub, Array.replicate_succ, Array.replicate_zero, List.push_toArray, List.append_toArray, List.nil_append, List.cons_append]
    gi_wp2_with fail
    refine ⟨trivial, fun h => (Bool.false_ne_true h).elim, HE.out.mono ?_⟩
    rintro e W1 (⟨rfl, hJ1, hB1⟩ | ⟨rfl, q, hq, hJx1⟩)
    · have HJ := Lib.hid hJ1; clear hJ1
      gi_wp2
      go_end0
      exact ⟨⟨_, rfl⟩, .inl ⟨_, rfl, by simpa using HJ.out⟩⟩
    · have HJ := Lib.hid hJx1; clear hJx1
      have HQ := Lib.hid hq; clear hq
      gi_wp2
      go_end0
      exact ⟨⟨_, rfl⟩, .inr ⟨_, HQ.out, by simpa using HJ.out⟩⟩

set_option maxHeartbeats 1000000 in
theorem all_in (p : Option Addr) (w : World) :
    Calls Try.prog 11 #[rope p] w fun e w' => e = .returned (.func (.func 29) #[] #[.pointer (some ⟨w.heap.size, 0, none⟩)]) ∧ w' = w.alloc (.cells #[.pointer p] RT) := by
  have hmf : ∀ (fn : Fn) (first cap : Array Value) (w : World), (Instr.makeFunc fn first cap).run Try.prog w = .ok (.func fn first cap) w := fun _ _ _ _ => rfl
  go_enter Try.func11, Try.ntmps11
  go_wp2
  go_ret
  exact ⟨rfl, rfl⟩

/-- WHAT All GIVES STOPS: all things with their places, or as many as were wanted. -/
theorem all_stops (K : Nat → Prop) (Bn n : Nat) (p : Option Addr) (xs : List Int) (w : World) (hlt : ∀ b, K b → b < w.heap.size) (hKB : K Bn)
    (hbox : w.heap[Bn]? = some (.cells #[.pointer p] RT (0, 0))) (hV : Tree K w p xs) (hl : xs.length ≤ 1000000) :
    SeqStopsK Fence.wide n Try.prog 29 #[.pointer (some ⟨Bn, 0, none⟩)] (fun x : Int × Int => #[Value.int .i64 x.1, Value.int .i64 x.2]) (Kept K) (fun zs => zs = idx 0 xs) (fun pre => pre <+: idx 0 xs) xs.length w := fun l J Jx W hW hA _ hY h0 =>
  all1_c K l Bn n p xs J Jx (fun mm pre x W1 hj hl => YieldAt.anyDepth rfl mm (hY pre x W1 hj hl)) W hKB ((hW.block Bn (hlt Bn hKB)).trans hbox) (hV.below hW) h0 hl

/-- a row's block is no block of another type -/
theorem not_row4 {W : World} {B : Nat} {t e : TypeId} {cs : Array Value} (h : W.heap[B]? = some (.cells cs t (0, 0))) (hte : t ≠ e) {base size k : Nat} {v : Value} {xs : List Value} (hr : W.ownsRow base e size v k xs) : some B ≠ v.ownBlock := by
  rcases hr.2 with ⟨rfl, _⟩ | ⟨g, cap, cur, rfl, _, hgb, _⟩
  · simp [Value.ownBlock]
  · intro e'
    obtain rfl : B = g := by simpa [Value.ownBlock] using e'
    have := h.symm.trans hgb
    simp at this
    exact hte this.2

theorem idx_vals (a : Nat) (xs : List Int) : (idx a xs).map (fun x => Value.int .i64 x.2) = ints xs := by
  induction xs generalizing a with
  | nil => rfl
  | cons x xs ih => show _ :: (idx (a + 1) xs).map _ = _ :: _; rw [ih]

set_option maxRecDepth 100000 in
set_option maxHeartbeats 4000000 in
theorem list_f (K : Nat → Prop) (p : Option Addr) (xs : List Int) (w : World) (hV : Tree K w p xs) (hK : ∀ b, K b → b < w.heap.size) (hl : xs.length ≤ 1000000) (n : Nat) (hn : 3 ≤ n) :
    CallsIn Fence.wide n Try.prog 12 #[rope p] w fun e W' => ∃ v, e = .returned v ∧ W'.ownsRow w.heap.size 3 1 v xs.length (ints xs) ∧ Below w.heap.size w W' := by
  have h1 : 1 ≤ n := by omega
  obtain ⟨i0, hi, hz0, hz1, hz2⟩ := info_parts info_int
  obtain ⟨N, hN⟩ : ∃ N : Nat, N = xs.length := ⟨_, rfl⟩
  have hN6 : N ≤ 1000000 := by omega
  have hmk : ∀ W, (Instr.makeSlice 27 (.int .i64 0) (.int .i64 (N : Int))).run Try.prog W = .ok (.slice (some ⟨W.heap.size, 0, none⟩) 0 N) (W.alloc (.cells (Array.replicate N (.int .i64 0)) 3)) := by
    intro W
    have := run_make (P := Try.prog) W 27 3 i0 (.int .i64 0) Try.underlying27 hi hz0 .i64 .i64 0 (N : Int) (by omega) (by omega) (by rw [hz2]; omega) (by omega)
    rw [hz1, Nat.mul_one, show Value.cells (.int .i64 0) = #[.int .i64 0] from rfl, madeCells_one] at this
    simpa using this
  have HLn := Lib.hid (fun W (hw : Below w.heap.size w W) => (show Calls Try.prog 21 #[rope p] W (Ret (fun v _ => v = .int .i64 (N : Int)) W) from by rw [hN]; exact len_c K p xs W (hV.below hw)))
  have HN := Lib.hid hN; clear hN
  have HV := Lib.hid hV; clear hV
  have HK := Lib.hid hK; clear hK
  refine callsIn_of_wp_marks Try.func12 rfl trivial ?_ rfl
  simp only [Try.ntmps12, List.size_toArray, List.length_cons, List.length_nil, Nat.reduceAdd, Nat.reduceSub, Array.replicate_succ, Array.replicate_zero, List.push_toArray, List.append_toArray, List.nil_append, List.cons_append]
  gi_wp2_with fail
  refine ⟨trivial, (callsIn_wide.2 (HLn.out _ (by go_grown))).mono ?_⟩
  rintro e wL ⟨v, rfl, rfl, hb1⟩
  have hB1 : Below w.heap.size w wL := below_trans (by go_grown) hb1
  have BA : wL.heap[w.heap.size]? = some (.cells #[.pointer p] RT (0, 0)) := (hb1.block _ (by simp)).trans (blk_new w _)
  obtain ⟨ka, fa⟩ := box1 BA
  have ka2 : ((wL.alloc (.cells (Array.replicate N (.int .i64 0)) 3)).alloc (.cells #[.slice (some ⟨wL.heap.size, 0, none⟩) 0 N] 27)).cell? ⟨w.heap.size, 0, none⟩ = some (.pointer p) := cell_below ka (((Below.refl _ _).alloc (Nat.le_refl _) _).alloc (by simp) _)
  have HBA := Lib.hid BA; clear BA hb1
  gi_wp2_with fail
  refine ⟨trivial, (callsIn_wide.2 (all_in p _)).mono ?_⟩
  rintro e w' ⟨rfl, rfl⟩
  gi_wp2_with fail
  obtain ⟨W4, hW4⟩ : ∃ W4, (((wL.alloc (.cells (Array.replicate N (.int .i64 0)) 3)).alloc (.cells #[.slice (some ⟨wL.heap.size, 0, none⟩) 0 N] 27)).alloc (.cells #[.pointer p] RT)) = W4 := ⟨_, rfl⟩
  have hs1 : w.heap.size < wL.heap.size := blk_lt HBA.out
  have hs4 : W4.heap.size = wL.heap.size + 1 + 1 + 1 := by rw [← hW4]; simp
  have hB4 : Below w.heap.size w W4 := by rw [← hW4]; exact ((hB1.alloc hB1.size _).alloc (by simp; omega) _).alloc (by simp; omega) _
  have hbox4 : W4.heap[wL.heap.size + 1 + 1]? = some (.cells #[.pointer p] RT (0, 0)) := by rw [← hW4]; exact heap_k2 wL _ _ _
  have hout4 : Boxed W4 (wL.heap.size + 1) 27 (.slice (some ⟨wL.heap.size, 0, none⟩) 0 N) := by rw [← hW4]; exact blk_alloc (heap_k1 wL _ _) _
  have hrow4 : W4.ownsRow w.heap.size 3 1 (.slice (some ⟨wL.heap.size, 0, none⟩) 0 N) 0 [] := by
    rw [← hW4]
    have h := World.ownsRow_made (base := w.heap.size) (e := 3) (size := 1) wL (Array.replicate N (.int .i64 0)) N (by omega) (by simp [maxLen]; omega) (by simp)
    exact (h.alloc _).alloc _
  have hV4 : Tree (fun b => K b ∨ b = wL.heap.size + 1 + 1) W4 p xs := (HV.out.below hB4).mono fun _ h => Or.inl h
  have hlt4 : ∀ b, (K b ∨ b = wL.heap.size + 1 + 1) → b < W4.heap.size := fun b h => h.elim (fun h => by have := HK.out b h; omega) (fun h => by omega)
  refine' wpIn_rangeFunc_ownG rfl h1 (gf := 29) (lb := #[.pointer (some ⟨wL.heap.size + 1 + 1, 0, none⟩)]) rfl trivial (enters_of Try.func29 (by kernel_rfl) rfl)
    (all_stops (fun b => K b ∨ b = wL.heap.size + 1 + 1) (wL.heap.size + 1 + 1) (n - 1) p xs W4 hlt4 (Or.inr rfl) hbox4 hV4 (by have := HN.out; omega)) (fun h k => Kept.trans h k) ?kb ?b0 (fun _ => rfl)
    (fun pre W => ((∃ v, Boxed W (wL.heap.size + 1) 27 v ∧ W.ownsRow w.heap.size 3 1 v pre.length (pre.map fun x => Value.int .i64 x.2) ∧ True) ∧ Below w.heap.size w W) ∧ W.heap[wL.heap.size + 1 + 1]? = some (.cells #[.pointer p] RT (0, 0)))
    (fun _ _ _ => False) ?hI (fun _ _ _ _ _ hs _ _ => hs) ?h0
    _ ?assign ?body ?done ?stop
  case kb =>
    intro W l o o' hl _ _ _ b hb
    have hb4 := hlt4 b hb
    have hne : b ≠ l := by rw [hW4] at hl; omega
    simp [World.putObj, Array.getElem?_setIfInBounds_ne (Ne.symm hne)]
  case b0 => rw [hW4]; exact Below.refl _ _
  case h0 => rw [hW4]; exact ⟨⟨⟨_, hout4, by simpa using hrow4, trivial⟩, hB4⟩, hbox4⟩
  case assign =>
    intro l x W K hK
    gi_wp2
    exact hK
  case stop =>
    rintro D c pre W _ _ h _
    exact h.elim
  case hI =>
    refine OwnFrom.and (OwnFrom.and (Own.from (holdsRow_own w.heap.size (wL.heap.size + 1) 27 3 1 (fun pre : List (Int × Int) => pre.length) (fun pre => pre.map fun x => Value.int .i64 x.2) (fun _ _ => True)) _) (ownFrom_below (Nat.le_refl _) (by rw [hW4]; omega))) ?_
    intro s X Y row hs hg hr
    exact (hg.block _ (blk_lt hs) (fun e => by have := (hr _ e.symm).1; rw [hW4] at this; omega)).trans hs
  case done =>
    rintro D zs W hD rfl ⟨⟨⟨v, hv, hrow, _⟩, hB⟩, _⟩ hK
    have hc := hv.cell
    gi_wp2
    refine ⟨by simp, .inl ⟨_, _, rfl, run_takeDeferred hK, ?_⟩⟩
    refine ⟨_, results_tmp rfl _ _ _, v, rfl, ?_, hB.trans (belowK_b (w := w) (Nat.le_refl _) W D _ _ (by rw [hW4] at hD; omega) hK rfl rfl)⟩
    have h2 := ownsRow_putObj hrow (.deferred none) hK rfl
    rw [idx_length, idx_vals] at h2
    exact h2
  case body =>
    rintro l pre x W ⟨⟨⟨v, hv, hrow, _⟩, hB⟩, hbx⟩ hlt
    have hc := hv.cell
    have hpl : pre.length < 1000000 := by have := HN.out; omega
    gi_wp2_with (gi_at_builtin; refine wpListIn_append_own _ rfl _ _ 27 rfl w.heap.size 3 i0 (.int .i64 0) 1 8 Try.underlying27 hi hz0 hz1 hz2 rfl (by decide) _ _ _ rfl (hrow.alloc _) ⟨W.heap.size, 0, none⟩ 1 1 [.int .i64 x.2] rfl rfl (cell_one_new _ _ _) (by simp [Value.oneCell']) (by simp [maxLen]; omega) (by omega) (by have := hB.size; simp; omega) ?_; intro v' w1 hown' hgrow _; obtain ⟨g', cap', rfl⟩ := ownsRow_succ hown'; obtain ⟨hv1, hv2, hr2, hk2, hb2⟩ := hv.appended (by decide) hrow hB.size (by omega) hown' hgrow; have hc1 := hv1.cell; have hf1 := hv1.frozen)
    have hk3 : (w1.setCell ⟨wL.heap.size + 1, 0, none⟩ (.slice (some ⟨g', 0, none⟩) (pre.length + 1) cap')).heap[wL.heap.size + 1 + 1]? = W.heap[wL.heap.size + 1 + 1]? := by
      rw [Below.heap_setCell _ _ _ _ (by simp)]
      exact (hgrow.block _ (by rw [World.size_alloc]; have := blk_lt hbx; omega) (not_row4 hbx (by decide) hrow)).trans (Below.heap_alloc W _ _ (blk_lt hbx))
    exact ⟨hk2.from _, fun b hb => hb.elim (fun h => hb2.block b (HK.out b h)) (fun h => by rw [h]; exact hk3), ⟨⟨_, hv2, by simpa using hr2, trivial⟩, hB.trans hb2⟩, hk3.trans hbx⟩
end Go.Proofs.Ytcjpdjecgeenfaa.Ro
end

section
namespace Go.Proofs.Ytcjpdjecgeenfaa.Ro
open Go Go.RowKit Go.Proofs.Ytcjpdjecgeenfaa.Mem Go.Proofs.YtcjpdjecgeenfaaW.PrintWords

section
variable {K K' : Nat → Prop} {w w' : World} {v : Value} {xs : List Int}
theorem RopeV.keep (h : RopeV K w v xs) (hK : ∀ b, K b → K' b) (hb : ∀ b, K b → b < w.heap.size → w'.heap[b]? = w.heap[b]?) : RopeV K' w' v xs := by
  obtain ⟨p, rfl, h⟩ := h
  exact ⟨p, rfl, h.keep (fun b h _ => hK b h) hb⟩
theorem RopeV.below (h : RopeV K w v xs) (hb : Below w.heap.size w w') : RopeV K w' v xs := h.keep (fun _ h => h) fun b _ hlt => hb.block b hlt
theorem RopeV.mono (h : RopeV K w v xs) (hK : ∀ b, K b → K' b) : RopeV K' w v xs := h.keep hK fun _ _ _ => rfl
theorem RopeV.bound (h : RopeV K w v xs) : RopeV (fun b => K b ∧ b < w.heap.size) w v xs := by
  obtain ⟨p, rfl, h⟩ := h
  exact ⟨p, rfl, h.bound⟩
theorem RopeV.far (h : RopeV K w v xs) (g i : Nat) (u : Value) (hg : ¬ K g) : RopeV K (w.setCell ⟨g, i, none⟩ u) v xs := by
  obtain ⟨p, rfl, h⟩ := h
  exact ⟨p, rfl, tree_far h g i u hg⟩
end
theorem slv_far {K : Nat → Prop} {w : World} {v : Value} {xs : List Value} (h : SlV K w v xs) (g : Nat) (i : Nat) (u : Value) (hg : ¬ K g) : SlV K (w.setCell ⟨g, i, none⟩ u) v xs :=
  h.keep fun b hb _ => Below.heap_setCell w ⟨g, i, none⟩ u b (fun e => hg (by have e' : b = g := e; rw [← e']; exact hb))

/-- all things, in memory of the call's own -/
theorem list_o (K : Nat → Prop) (p : Option Addr) (xs : List Int) (w : World) (h : Tree K w p xs) (hl : xs.length ≤ 1000000) :
    Calls Try.prog 12 #[rope p] w (Ret (fun u w' => Own w.heap.size w' u xs) w) := by
  refine (callsIn_wide.1 (list_f (fun b => K b ∧ b < w.heap.size) p xs w h.bound (fun b h => h.2) hl 3 (by omega))).mono ?_
  rintro e w' ⟨v, rfl, hr, hb⟩
  exact ⟨v, rfl, hr, hb⟩

/-- the depth lies within the document's bounds -/
def DepOk (n D : Nat) : Prop := (D = 0 ∧ n = 0) ∨ ∃ d, D = d + 1 ∧ d ≤ 6 ∧ 1 ≤ n ∧ n ≤ 16 ^ (d + 1) ∧ (d = 0 ∨ 8 ^ d * 2 ≤ n)

theorem depth_o (K : Nat → Prop) (p : Option Addr) (xs : List Int) (w : World) (h : Tree K w p xs) (hl : xs.length ≤ 1000000) :
    Calls Try.prog 17 #[rope p] w (Ret (fun v _ => ∃ D : Nat, v = .int .i64 (D : Int) ∧ DepOk xs.length D) w) := by
  refine (depth_c K p xs w h hl).mono ?_
  rintro e w' ⟨v, rfl, ⟨n, rfl, hn, hd⟩, hb⟩
  refine ⟨_, rfl, ⟨n, rfl, ?_⟩, hb⟩
  rcases hd with ⟨h0, rfl⟩ | ⟨d, c, rfl, hr, ht1, ht2, ht3⟩
  · exact Or.inl ⟨h0, rfl⟩
  · have hd6 := hr.deep ⟨ht1, ht2, ht3⟩ hl
    obtain ⟨l1, l2⟩ := hr.len
    have p8 : 1 ≤ 8 ^ d := Nat.pow_pos (by decide)
    have h3 : 8 ^ d * 1 ≤ 8 ^ d * c := Nat.mul_le_mul_left _ ht1
    have h4 : 16 ^ d * c ≤ 16 ^ d * 16 := Nat.mul_le_mul_left _ ht2
    refine Or.inr ⟨d, rfl, hd6, by omega, by rw [Nat.pow_succ]; omega, ?_⟩
    rcases ht3 with h | h
    · exact Or.inl h
    · have h5 : 8 ^ d * 2 ≤ 8 ^ d * c := Nat.mul_le_mul_left _ h
      exact Or.inr (by omega)

theorem dep_17 {D : Nat} (h : DepOk 17 D) : D = 2 := by
  rcases h with ⟨_, h⟩ | ⟨d, rfl, h6, h1, h2, h3⟩
  · omega
  · have h7 : d = 0 ∨ d = 1 ∨ 2 ≤ d := by omega
    rcases h7 with rfl | rfl | h7
    · simp at h2
    · rfl
    · have h4 : 8 ^ 2 ≤ 8 ^ d := Nat.pow_le_pow_right (by omega) h7
      omega

theorem runL_17 : (runL 0 17).length = 17 := runL_length _ _
theorem cut_5 : cutL (runL 0 5) (-2) 9 = [3, 4] := by decide +kernel

theorem slice_o (K : Nat → Prop) (p : Option Addr) (xs : List Int) (lo hi : Int) (w : World) (h : Tree K w p xs) (h1 : Wf lo) (h2 : Wf hi) (hl : xs.length ≤ 1000000) :
    Calls Try.prog 22 #[rope p, .int .i64 lo, .int .i64 hi] w (Ret (fun v w' => RopeV (New K w) w' v (cutL xs lo hi)) w) :=
  slice_c K p xs lo hi _ _ w h (ncut_f lo hi _ h1 h2 (by omega) (by omega)) hl

/-- a leaf's depth -/
theorem depth_leaf (K : Nat → Prop) (p : Option Addr) (c : Nat) (xs : List Int) (w : World) (h : RRep K w 0 p c xs) :
    Calls Try.prog 17 #[rope p] w (Ret (fun v _ => v = .int .i64 1) w) := by
  obtain ⟨g, a0, b0, rfl, -, hg⟩ := h.head
  have hlt := blk_lt hg
  have dn : w.cell? ⟨g, 1, none⟩ = some (.int .i64 1) := blk_cell hg 1
  have dn' : (w.alloc (.cells #[.pointer (some ⟨g, 0, none⟩)] RT)).cell? ⟨g, 1, none⟩ = some (.int .i64 1) := cell_below dn ((Below.refl _ _).alloc (Nat.le_refl _) _)
  clear h hg
  go_enter Try.func17, Try.ntmps17
  go_wp2
  go_returns
  exact ⟨_, rfl, rfl, by go_grown⟩

theorem get_0 (K : Nat → Prop) (p : Option Addr) (xs : List Int) (x : Int) (w : World) (h : Tree K w p xs) (hx : xs[0]? = some x) (hl : xs.length ≤ 1000000) :
    Calls Try.prog 18 #[rope p, .int .i64 0] w (Ret (fun v _ => v = .tuple #[.int .i64 x, .bool true]) w) := get_in K p xs 0 x w h hx hl

set_option maxHeartbeats 4000000 in
theorem live_c (w : World) : Calls Try.prog 8 #[] w (Ret (fun v _ => v = .bool true) w) := by
  have hc := cut_5
  have HC := Lib.hid hc; clear hc
  have HW1 := Lib.hid (show Wf (-2) from by unfold Wf; omega)
  have HW2 := Lib.hid (show Wf 9 from by unfold Wf; omega)
  go_enter Try.func8, Try.ntmps8
  go_wp2_with (first
    | (go_at_call 10; ((with_reducible refine (run_c 0 17 ?_ _).mono ?_); (omega); rintro e w1 ⟨v, rfl, hO, hb1⟩; have hB1 : Below w.heap.size w w1 := below_trans (by go_grown) hb1; obtain ⟨A, n, c, rfl⟩ := hO.slv.form; have HO1 := Lib.hid hO.slv; clear hO hb1))
    | (go_at_call 9; ((with_reducible refine (of_c _ _ _ _ HO1.out ?_).mono ?_); (rw [runL_length]; decide); rintro e w2 ⟨v, rfl, ⟨p2, rfl, hT⟩, hb2⟩; have hB2 : Below w.heap.size w w2 := below_trans hB1 hb2; have HT2 := Lib.hid hT; clear hT HO1 hb2 hB1))
    | (go_at_call 10; ((with_reducible refine (run_c 0 5 ?_ _).mono ?_); (omega); rintro e w3 ⟨v, rfl, hO, hb3⟩; have hB3 : Below w.heap.size w w3 := below_trans (hB2.alloc hB2.size _) hb3; obtain ⟨A, n, c, rfl⟩ := hO.slv.form; have HO3 := Lib.hid hO.slv; have HT3 := Lib.hid ((HT2.out.below ((Below.refl _ _).alloc (Nat.le_refl _) _)).below hb3); have HX3 := Lib.hid (blk_below (blk_new w2 _) hb3); clear hO hb3 HT2))
    | (go_at_call 9; ((with_reducible refine (of_c _ _ _ _ HO3.out ?_).mono ?_); (rw [runL_length]; decide); rintro e w4 ⟨v, rfl, ⟨p4, rfl, hT⟩, hb4⟩; have hB4 : Below w.heap.size w w4 := below_trans hB3 hb4; have HT4 := Lib.hid hT; have HX4 := Lib.hid (blk_below HX3.out hb4); have HU4 := Lib.hid (HT3.out.below hb4); clear hT HO3 hb4 hB3 HT3 HX3))
    | (go_at_call 22; ((with_reducible refine (slice_o _ _ _ (-2) 9 _ HT4.out HW1.out HW2.out ?_).mono ?_); (rw [runL_length]; decide); rintro e w5 ⟨v, rfl, ⟨p5, rfl, hT⟩, hb5⟩; have hB5 : Below w.heap.size w w5 := below_trans hB4 hb5; have HT5 := Lib.hid (show Tree _ w5 p5 [3, 4] by rw [← HC.out]; exact hT); have HX5 := Lib.hid (blk_below HX4.out hb5); have HU5 := Lib.hid (HU4.out.below hb5); clear hT hb5 hB4 HT4 HX4 HU4))
    | (go_at_call 18; ((with_reducible refine (get_0 _ _ _ 3 _ (HT5.out.below ((Below.refl _ _).alloc (Nat.le_refl _) _)) rfl ?_).mono ?_); (decide); rintro e w6 ⟨v, rfl, rfl, hb6⟩; have hB6 : Below w.heap.size w w6 := below_trans (hB5.alloc hB5.size _) hb6; have hb56 := below_trans ((Below.refl w5.heap.size w5).alloc (Nat.le_refl _) (.cells #[.pointer p5] RT)) hb6; have HT6 := Lib.hid (HT5.out.below hb56); have HX6 := Lib.hid (blk_below HX5.out hb56); have HU6 := Lib.hid (HU5.out.below hb56); have HY6 := Lib.hid (blk_below (blk_new w5 _) hb6); obtain ⟨kx, fx⟩ := box1 HX6.out; obtain ⟨ky, fy⟩ := box1 HY6.out; clear hb6 hb56 hB5 HT5 HX5 HU5))
    | (go_at_call 17; ((with_reducible refine (depth_o _ _ _ _ HU6.out ?_).mono ?_); (rw [runL_length]; decide); rintro e w7 ⟨v, rfl, ⟨D, rfl, hD⟩, hb7⟩; obtain rfl := dep_17 (by rw [runL_length] at hD; exact hD); have hB7 : Below w.heap.size w w7 := below_trans hB6 hb7; have HT7 := Lib.hid (HT6.out.below hb7); have HX7 := Lib.hid (blk_below HX6.out hb7); have HU7 := Lib.hid (HU6.out.below hb7); have HY7 := Lib.hid (blk_below HY6.out hb7); clear kx fx ky fy; obtain ⟨kx, fx⟩ := box1 HX7.out; obtain ⟨ky, fy⟩ := box1 HY7.out; clear hb7 hB6 HT6 HX6 HU6 HY6 hD))
    | (go_at_call 21; ((with_reducible refine (len_c _ _ _ _ HU7.out).mono ?_); rintro e w8 ⟨v, rfl, rfl, hb8⟩; rw [runL_length]; have hB8 : Below w.heap.size w w8 := below_trans hB7 hb8; have HT8 := Lib.hid (HT7.out.below hb8); have HY8 := Lib.hid (blk_below HY7.out hb8); clear kx fx ky fy; obtain ⟨ky, fy⟩ := box1 HY8.out; clear hb8 hB7 HT7 HX7 HU7 HY7))
    | (go_at_call 10; ((with_reducible refine (run_c 0 16 ?_ _).mono ?_); (omega); rintro e w9 ⟨v, rfl, hO, hb9⟩; have hB9 : Below w.heap.size w w9 := below_trans hB8 hb9; obtain ⟨A, n, c, rfl⟩ := hO.slv.form; have HO9 := Lib.hid hO.slv; have HT9 := Lib.hid (HT8.out.below hb9); have HY9 := Lib.hid (blk_below HY8.out hb9); clear ky fy; obtain ⟨ky, fy⟩ := box1 HY9.out; clear hO hb9 hB8 HT8 HY8))
    | (go_at_call 9; ((with_reducible refine (of_16 _ _ _ _ HO9.out ?_).mono ?_); (rw [runL_length]; rfl); rintro e w10 ⟨v, rfl, ⟨p10, rfl, hR⟩, hb10⟩; have hB10 : Below w.heap.size w w10 := below_trans hB9 hb10; have HR10 := Lib.hid hR; have HT10 := Lib.hid (HT9.out.below hb10); have HY10 := Lib.hid (blk_below HY9.out hb10); clear ky fy; obtain ⟨ky, fy⟩ := box1 HY10.out; clear hR hb10 hB9 HT9 HY9 HO9))
    | (go_at_call 17; ((with_reducible refine (depth_leaf _ _ _ _ _ HR10.out).mono ?_); rintro e w11 ⟨v, rfl, rfl, hb11⟩; have hB11 : Below w.heap.size w w11 := below_trans hB10 hb11; have HT11 := Lib.hid (HT10.out.below hb11); have HY11 := Lib.hid (blk_below HY10.out hb11); clear ky fy; obtain ⟨ky, fy⟩ := box1 HY11.out; clear hb11 hB10 HT10 HR10 HY10))
    | (go_at_call 21; ((with_reducible refine (len_c _ _ _ _ HT11.out).mono ?_); rintro e w12 ⟨v, rfl, rfl, hb12⟩; have hB12 : Below w.heap.size w w12 := below_trans hB11 hb12; clear ky fy HT11 HY11 hb12 hB11)))
  go_returns
  exact ⟨_, rfl, rfl, hB12⟩
end Go.Proofs.Ytcjpdjecgeenfaa.Ro
end

section
namespace Go.Proofs.Ytcjpdjecgeenfaa.Ro
open Go Go.RowKit Go.Proofs.Ytcjpdjecgeenfaa.Mem Go.Proofs.YtcjpdjecgeenfaaW.PrintWords

/-- what is at a place, told by the rope and by the document -/
theorem get_pair (K K' : Nat → Prop) (p : Option Addr) (s : Value) (l : List Int) (i : Int) (w : World) (hV : Tree K w p l) (hS : SlV K' w s (ints l)) (hl : l.length ≤ 1000000) :
    ∃ (x : Int) (b : Bool), (∀ W, Below w.heap.size w W → Calls Try.prog 18 #[rope p, .int .i64 i] W (Ret (fun u _ => u = .tuple #[.int .i64 x, .bool b]) W)) ∧ (∀ W, Below w.heap.size w W → Calls Try.prog 19 #[s, .int .i64 i] W (Ret (fun u _ => u = .tuple #[.int .i64 x, .bool b]) W)) := by
  by_cases hi : 0 ≤ i ∧ i < l.length
  · have hx : l[i.toNat]? = some (l[i.toNat]'(by omega)) := List.getElem?_eq_getElem _
    refine ⟨_, true, fun W hW => ?_, fun W hW => rget_in K' s l i _ hi.1 hx W (hS.below hW)⟩
    have := get_in K p l i.toNat _ W (hV.below hW) hx hl
    rwa [show ((i.toNat : Nat) : Int) = i by omega] at this
  · exact ⟨0, false, fun W hW => get_out K p l i W (hV.below hW) (by omega), fun W hW => rget_no K' s l i hi W (hS.below hW)⟩

def SameI (w : World) (p : Option Addr) (g : Nat) (is : List Int) (k : Nat) (v33 : Value) (wr : World) : Prop :=
  ∃ j : Nat, v33 = .int .i64 (j : Int) ∧ j + k = is.length ∧ wr.heap[w.heap.size]? = some (.cells #[.pointer p] RT (0, 0)) ∧ wr.heap[g]? = some (.cells (ints is).toArray 3 (0, 0)) ∧ Below w.heap.size w wr

set_option maxRecDepth 500000 in
set_option maxHeartbeats 4000000 in
theorem same_c (K K' : Nat → Prop) (p : Option Addr) (s : Value) (l : List Int) (w : World) (hV : Tree K w p l) (hS : SlV K' w s (ints l)) (hl : l.length ≤ 1000000) :
    Calls Try.prog 20 #[rope p, s] w (Ret (fun u _ => u = .bool true) w) := by
  obtain ⟨As, ns, cs, rfl⟩ := hS.form
  obtain rfl : ns = l.length := by have := hS.len; simpa using this
  have HV := Lib.hid hV; clear hV
  have HS := Lib.hid hS; clear hS
  have HLen := Lib.hid fun W (hw : Below w.heap.size w W) => len_c K _ l W (HV.out.below hw)
  have HList := Lib.hid fun W (hw : Below w.heap.size w W) => list_o K _ l W (HV.out.below hw) hl
  have HSame := Lib.hid fun (J : Nat → Prop) (t : Value) W (h : SlV J W t (ints l)) (hw : Below w.heap.size w W) => rsame_c J K' t (.slice As l.length cs) l hl W h (HS.out.below hw)
  have HL := Lib.hid hl
  have hlI : (l.length : Int) ≤ 1000000 := by omega
  go_enter Try.func20, Try.ntmps20
  go_wp2_with (first
    | (go_at_call 21; ((with_reducible refine (HLen.out _ (by go_grown)).mono ?_); rintro e w1 ⟨v, rfl, rfl, hb1⟩; have hB1 : Below w.heap.size w w1 := below_trans (by go_grown) hb1; have B0 := blk_below (blk_new w _) hb1; obtain ⟨k0, f0⟩ := box1 B0; have HB0 := Lib.hid B0; clear B0 hb1))
    | (go_at_call 12; ((with_reducible refine (HList.out _ hB1).mono ?_); rintro e w4 ⟨v, rfl, hO4, hb4⟩; obtain ⟨A4, n4, c4, rfl⟩ := hO4.slv.form; have hB4 : Below w.heap.size w w4 := below_trans hB1 hb4; have B0 := blk_below HB0.out hb4; clear HB0; clear k0 f0; obtain ⟨k0, f0⟩ := box1 B0; have HB0 := Lib.hid B0; clear B0 hb4 hB1; have HS4 := Lib.hid hO4.slv; clear hO4))
    | (go_at_call 13; ((with_reducible refine (HSame.out _ _ _ HS4.out hB4).mono ?_); rintro e w5 ⟨v, rfl, rfl, hb5⟩; have hB5 : Below w.heap.size w w5 := below_trans hB4 hb5; have B0 := blk_below HB0.out hb5; clear HB0; clear k0 f0; obtain ⟨k0, f0⟩ := box1 B0; have HB0 := Lib.hid B0; clear B0 hb5 hB4 HS4)))
  have hz5 : w.heap.size < w5.heap.size := blk_lt HB0.out
  go_loopg [33] 9 (fun k v33 wr => Aside (SameI w p w5.heap.size [-1, 0, 7, 8, 15, 16, Int.tdiv (l.length : Int) 2, (l.length : Int) - 1, (l.length : Int)] k v33 wr))
  case atStart =>
    show SameI _ _ _ _ _ _ _
    exact ⟨0, rfl, rfl, blk_alloc HB0.out _, blk_new w5 _, hB5.alloc hB5.size _⟩
  case round =>
    obtain ⟨j, rfl, hj, BV, BG, hB⟩ := hrel.out
    clear hrel
    obtain ⟨k0, f0⟩ := box1 BV
    have HBV := Lib.hid BV; clear BV
    have hj : j + gk = 9 := hj
    cases gk with
    | zero =>
      obtain rfl : j = 9 := by omega
      clear hj
      go_wp2_with fail
      go_returns
      exact ⟨_, rfl, rfl, hB⟩
    | succ k =>
      obtain ⟨i, hi⟩ : ∃ i : Int, [-1, 0, 7, 8, 15, 16, Int.tdiv (l.length : Int) 2, (l.length : Int) - 1, (l.length : Int)][j]? = some i := ⟨_, List.getElem?_eq_getElem (by simp; omega)⟩
      have hc : wr.cell? ⟨w5.heap.size, j, none⟩ = some (.int .i64 i) := by
        rw [blk_cell BG]
        simp only [List.getElem?_toArray, List.getElem?_map, hi]
        rfl
      have hj6 : (j : Int) < 9 := by omega
      obtain ⟨x, b, hg, hr⟩ := get_pair K K' _ _ l i w HV.out HS.out HL.out
      have HG := Lib.hid hg; clear hg
      have HR := Lib.hid hr; clear hr
      have HBG := Lib.hid BG; clear BG
      have HI := Lib.hid hi; clear hi
      go_wp2_with (first
        | (go_at_call 18; ((with_reducible refine (HG.out _ hB).mono ?_); rintro e w6 ⟨v, rfl, rfl, hb6⟩; have hB6 : Below w.heap.size w w6 := below_trans hB hb6))
        | (go_at_call 19; ((with_reducible refine (HR.out _ hB6).mono ?_); rintro e w7 ⟨v, rfl, rfl, hb7⟩; have hB7 : Below w.heap.size w w7 := below_trans hB6 hb7)))
      go_roundg k
      case measure => omega
      case rel =>
        show SameI _ _ _ _ _ _ _
        exact ⟨j + 1, by first | rfl | (push_cast; rfl), by show j + 1 + k = 9; omega, blk_below (blk_below HBV.out hb6) hb7, blk_below (blk_below HBG.out hb6) hb7, hB7⟩
end Go.Proofs.Ytcjpdjecgeenfaa.Ro
end
