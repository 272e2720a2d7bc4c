/- A rope with a thing more. -/
import Derived.Test.YtcjpdjecgeenfaaRoL
set_option linter.unusedVariables false
set_option linter.unusedSimpArgs false
namespace Go.Proofs.Ytcjpdjecgeenfaa.Ro
open Go Go.RowKit Go.Proofs.Ytcjpdjecgeenfaa.Mem Go.Proofs.YtcjpdjecgeenfaaW.PrintWords

theorem results_c2 {P : Program} {fn : Func} {p a : Tmp} {ty ta : TypeId} (h : fn.results = #[.cell p ty, .tmp a]) (tmps : Array Value) (w : World) (g : Nat) (t : TypeId) (cs : Array Value) (fr : Nat × Nat) (d : TypeDesc)
    (hp : tmps.getD p undef = .pointer (some ⟨g, 0, none⟩)) (hg : w.heap[g]? = some (.cells cs t fr))
    (hu : P.underlying ty = some d) (hd : (match d with | .struct _ | .array _ _ => true | _ => false) = true) (hi : (P.info? ty).map (·.size) = some cs.size) (va : Value) (ha : tmps.getD a undef = va) :
    (results fn tmps).run P w = .ok (.tuple #[.agg cs, va]) w := by
  have hp' : tmps[p]?.getD undef = .pointer (some ⟨g, 0, none⟩) := by simpa using hp
  have ha' : tmps[a]?.getD undef = va := by simpa using ha
  simp [results, h, hp', ha', asAddr, run_loadVar_row w g t ty cs fr d hg hu hd hi]

theorem results_rt2 {fn : Func} {p a : Tmp} (h : fn.results = #[.cell p RT, .tmp a]) (tmps : Array Value) (w : World) (g : Nat) (q : Option Addr) (va : Value) (hp : tmps.getD p undef = .pointer (some ⟨g, 0, none⟩)) (hg : w.heap[g]? = some (.cells #[.pointer q] RT (0, 0))) (ha : tmps.getD a undef = va) :
    (results fn tmps).run Try.prog w = .ok (.tuple #[rope q, va]) w :=
  results_c2 (ta := RT) h tmps w g RT _ (0, 0) _ hp hg Try.underlying25 rfl (by kernel_rfl) va ha

theorem split_off (K : Nat → Prop) (w : World) (n : Nat) (p : Option Addr) (xs : List Int) (i : Int) (W : World) (hw : w.heap.size + n ≤ W.heap.size) (h : Tree (Off K w n) W p xs) (hl : xs.length ≤ 1000000) :
    Calls Try.prog 35 #[.pointer p, .int .i64 i] W (Ret (CutP (Off K w n) xs i.toNat) W) := by
  refine (split_c (Off K w n) p xs i W h hl).mono ?_
  rintro e w' ⟨v, rfl, ⟨a, b, rfl, ha, hb'⟩, hb⟩
  exact ⟨_, rfl, ⟨a, b, rfl, ha.mono fun b h => h.elim id fun h => Or.inr (Nat.le_trans hw h), hb'.mono fun b h => h.elim id fun h => Or.inr (Nat.le_trans hw h)⟩, hb⟩

theorem leaf_off (K : Nat → Prop) (w : World) (n : Nat) (A : Option Addr) (m c : Nat) (xs : List Int) (W : World) (hw : w.heap.size + n ≤ W.heap.size) (h : SlV (Off K w n) W (.slice A m c) (ints xs)) (h1 : 1 ≤ xs.length) (h16 : xs.length ≤ 16) :
    Calls Try.prog 27 #[.slice A m c] W (Ret (fun v w' => ∃ r, v = .pointer r ∧ Tree (Off K w n) w' r xs) W) := by
  refine (leaf_some (Off K w n) A m c xs W h (by rintro rfl; simp at h1)).mono ?_
  rintro e w' ⟨v, rfl, ⟨r, rfl, hT⟩, hb⟩
  exact ⟨_, rfl, ⟨r, rfl, Or.inr ⟨0, _, hT.mono fun b h => h.elim id fun h => Or.inr (Nat.le_trans hw h), h1, h16, Or.inl rfl⟩⟩, hb⟩

set_option maxHeartbeats 2000000 in
theorem insert_out (K : Nat → Prop) (p : Option Addr) (xs : List Int) (i x : Int) (w : World) (h : Tree K w p xs) (hi : i < 0 ∨ (xs.length : Int) < i) :
    Calls Try.prog 24 #[rope p, .int .i64 i, .int .i64 x] w (Ret (fun v _ => v = .tuple #[rope none, .int .i64 4]) w) := by
  have HL := Lib.hid (fun W (hw : Below w.heap.size w W) => len_c K p xs W (h.below hw))
  clear h
  rcases (by omega : i < 0 ∨ 0 ≤ i) with h1 | h1
  · go_enter Try.func24, Try.ntmps24
    go_wp2
    go_returns
    exact ⟨_, rfl, rfl, by go_grown⟩
  · have h2 : (xs.length : Int) < i := by omega
    have h3 : (decide (i < 0)) = false := by simp; omega
    go_enter Try.func24, Try.ntmps24
    go_wp2_with (go_at_call 21; ((with_reducible refine (HL.out _ (by go_grown)).mono ?_); rintro e w1 ⟨v, rfl, rfl, hb1⟩; have B : w1.heap[w.heap.size + 1]? = some (.cells #[.pointer none] RT (0, 0)) := (hb1.block _ (by simp)).trans (heap_k1 w _ _); obtain ⟨bc, bf⟩ := box1 B; have HB := Lib.hid B; clear B; have hB1 : Below w.heap.size w w1 := below_trans (by go_grown) hb1))
    refine bodyPost_ret (results_rt2 rfl _ _ (w.heap.size + 1) none _ rfl (blk_put HB.out 0 _ rfl) rfl) rfl ?_
    exact ⟨_, rfl, rfl, by go_grown⟩

set_option maxHeartbeats 4000000 in
/-- A ROPE WITH A THING MORE. -/
theorem insert_in (K : Nat → Prop) (p : Option Addr) (xs : List Int) (i x : Int) (w : World) (h : Tree K w p xs) (h0 : 0 ≤ i) (hi : i ≤ (xs.length : Int)) (hl : xs.length + 1 ≤ 1000000) :
    Calls Try.prog 24 #[rope p, .int .i64 i, .int .i64 x] w (Ret (fun v w' => ∃ u, v = .tuple #[u, .int .i64 0] ∧ RopeV (New K w) w' u (xs.take i.toNat ++ x :: xs.drop i.toNat)) w) := by
  have HL := Lib.hid (fun W (hw : Below w.heap.size w W) => len_c K p xs W (h.below hw))
  have HS := Lib.hid (fun W (hw : Below w.heap.size w W) (hn : w.heap.size + 2 ≤ W.heap.size) => split_off K w 2 p xs i W hn ((h.bound.below hw).mono fun b h => Or.inl h) (by omega))
  clear h
  have hi' : ¬ (xs.length : Int) < i := by omega
  have h3 : (decide (i < 0)) = false := by simp; omega
  have HE1 := Lib.hid (show (xs.take i.toNat ++ [x]).length ≤ 1000000 by rw [List.length_append, List.length_take, List.length_singleton]; omega)
  have HE2 := Lib.hid (show (xs.take i.toNat ++ [x] ++ xs.drop i.toNat).length ≤ 1000000 by rw [List.length_append, List.length_append, List.length_take, List.length_drop, List.length_singleton]; omega)
  clear hl
  go_enter Try.func24, Try.ntmps24
  go_wp2_with (first
    | (go_at_call 21; ((with_reducible refine (HL.out _ (by go_grown)).mono ?_); rintro e w1 ⟨v, rfl, rfl, hb1⟩; have B0 : w1.heap[w.heap.size]? = some (.cells #[.pointer p] RT (0, 0)) := (hb1.block _ (by simp; omega)).trans (blk_alloc (blk_new w _) _); have B : w1.heap[w.heap.size + 1]? = some (.cells #[.pointer none] RT (0, 0)) := (hb1.block _ (by simp)).trans (heap_k1 w _ _); obtain ⟨bc0, bf0⟩ := box1 B0; have HB := Lib.hid B; clear B B0; have hB1 : Below w.heap.size w w1 := below_trans (by go_grown) hb1; have hn1 : w.heap.size + 2 ≤ w1.heap.size := by have := hb1.size; simpa using this))
    | (go_at_call 35; ((with_reducible refine (HS.out _ hB1 hn1).mono ?_); rintro e w2 ⟨v, rfl, ⟨ta, tb, rfl, hta, htb⟩, hb2⟩; have HTa := Lib.hid hta; have HTb := Lib.hid htb; clear hta htb; have hB2 : Below w.heap.size w w2 := below_trans hB1 hb2; have hn2 : w.heap.size + 2 ≤ w2.heap.size := Nat.le_trans hn1 hb2.size; have HB2 := Lib.hid (blk_below HB.out hb2); have HSX := Lib.hid (show SlV (Off K w 2) (w2.alloc (.cells #[.int .i64 x] 3)) (.slice (some ⟨w2.heap.size, 0, none⟩) 1 1) (ints [x]) from SlV.blk (xs := ints [x]) (c := 1) (blk_new w2 _) (fun j u hu => by rcases j with _ | j <;> first | (simp at hu; done) | simpa using hu) (by simp) (by simp [maxLen]) (ints_one [x]) (Or.inr hn2)); have HNX := Lib.hid (show w.heap.size + 2 ≤ (w2.alloc (.cells #[.int .i64 x] 3)).heap.size from Nat.le_trans hn2 (by simp))))
    | (go_at_call 27; ((with_reducible refine (leaf_off K w 2 _ _ _ [x] _ HNX.out HSX.out (by simp) (by simp)).mono ?_); rintro e w3 ⟨v, rfl, ⟨tx, rfl, htx⟩, hb3⟩; have hb23 : Below w2.heap.size w2 w3 := below_trans ((Below.refl _ _).alloc (Nat.le_refl _) _) hb3; have HTx := Lib.hid htx; clear htx; have HTa3 := Lib.hid (HTa.out.below hb23); have HTb3 := Lib.hid (HTb.out.below hb23); clear HTa HTb; have hn3 : w.heap.size + 2 ≤ w3.heap.size := Nat.le_trans hn2 hb23.size; have HB3 := Lib.hid (blk_below HB2.out hb23); have hB3 := below_trans hB2 hb23; clear hb3))
    | (go_at_call 26; ((with_reducible refine (join_off K w 2 _ _ _ _ _ hn3 HTa3.out HTx.out HE1.out).mono ?_); rintro e w4 ⟨v, rfl, ⟨tj, rfl, htj⟩, hb4⟩; have HTj := Lib.hid htj; clear htj; have HTb4 := Lib.hid (HTb3.out.below hb4); clear HTb3; have hn4 : w.heap.size + 2 ≤ w4.heap.size := Nat.le_trans hn3 hb4.size; have HB4 := Lib.hid (blk_below HB3.out hb4); have hB4 := below_trans hB3 hb4; clear HTa3 HTx))
    | (go_at_call 26; ((with_reducible refine (join_off K w 2 _ _ _ _ _ hn4 HTj.out HTb4.out HE2.out).mono ?_); rintro e w5 ⟨v, rfl, ⟨tr, rfl, htr⟩, hb5⟩; have HTr := Lib.hid htr; clear htr; have HB5 := Lib.hid (blk_below HB4.out hb5); obtain ⟨bc5, bf5⟩ := box1 HB5.out; have hB5 := below_trans hB4 hb5)))
  refine bodyPost_ret (results_rt2 rfl _ _ (w.heap.size + 1) tr _ rfl (blk_put HB5.out 0 _ rfl) rfl) rfl ?_
  refine ⟨_, rfl, ⟨_, rfl, tr, rfl, ?_⟩, by go_grown⟩
  have := (tree_far HTr.out (w.heap.size + 1) 0 (.pointer tr) (by rintro (h | h) <;> omega)).mono off_new
  rw [List.append_assoc] at this
  exact this
end Go.Proofs.Ytcjpdjecgeenfaa.Ro
