/- The document's functions on lists, as contracts on slices. -/
import Derived.Test.YtcjpdjecgeenfaaRoC
import Derived.Test.YtcjpdjecgeenfaaRoRefs
set_option linter.unusedVariables false
set_option linter.unusedSimpArgs false
namespace Go.Proofs.Ytcjpdjecgeenfaa.Ro
open Go Go.RowKit Go.Proofs.Ytcjpdjecgeenfaa.Mem Go.Proofs.YtcjpdjecgeenfaaW.PrintWords Go.Proofs.Ytcjpdjecgeenfaa.PRopeDoes

/-- a list in memory of the call's own -/
def Own (base : Nat) (w : World) (v : Value) (xs : List Int) : Prop := w.ownsRow base 3 1 v xs.length (ints xs)

theorem Own.slv {base : Nat} {w : World} {v : Value} {xs : List Int} (h : Own base w v xs) : SlV (fun b => base ≤ b) w v (ints xs) := slv_of_row h (ints_one xs)

theorem Own.of_R {base : Nat} {w : World} {ok : Nat → Prop} {v : Value} {xs : List Int} (h : (Kd.int .i64).R 3 w base ok v xs) : Own base w v xs := Kd.own_of_R (enc := Value.int .i64) (h1 := fun _ => rfl) h

theorem slv_toC {K : Nat → Prop} {w : World} {A : Option Addr} {n c : Nat} {xs : List Int} (h : SlV K w (.slice A n c) (ints xs)) : n = xs.length ∧ (Kd.int .i64).C w A xs.length xs ∧ xs.length ≤ c := by
  have hn : n = xs.length := by have := h.len; simpa using this
  obtain ⟨A', c', he, h1, h2, h3, h4⟩ := h
  injection he with hA hl hc
  subst hA hc
  have hlen : (ints xs).length = xs.length := by simp
  rw [hlen] at h1 h3
  refine ⟨hn, Kd.C_of_reads (enc := Value.int .i64) (d := (0 : Int)) (h1 := fun _ => rfl) ⟨rfl, by unfold maxLen at h2; omega, fun hp => ?_⟩, h1⟩
  obtain ⟨ad, e, _, hcell⟩ := h3 hp
  refine ⟨ad, e, fun j hj => hcell j _ ?_⟩
  simp [List.getElem?_eq_getElem hj, List.getD_eq_getElem?_getD]

def runL (x : Int) (n : Nat) : List Int := (List.range n).map fun i : Nat => wrap64 (x + (i : Int))
@[simp] theorem runL_length (x : Int) (n : Nat) : (runL x n).length = n := by simp [runL]
theorem runL_succ (x : Int) (n : Nat) : runL x (n + 1) = runL x n ++ [wrap64 (x + (n : Int))] := by simp [runL, List.range_succ]

theorem run_l0 (x n : Int) (hn : n ≤ 1000000) : ∀ (i j : Nat), (j : Int) + i = max n 0 → ∀ k, i + 1 ≤ k → placketref07_Run.l0 k x (runL x j) n (j : Int) = some (runL x n.toNat) := by
  intro i
  induction i with
  | zero =>
    intro j hj k hk
    obtain ⟨k, rfl⟩ : ∃ k', k = k' + 1 := ⟨k - 1, by omega⟩
    rw [placketref07_Run.l0, if_neg (by omega)]
    obtain rfl : j = n.toNat := by omega
    rfl
  | succ i ih =>
    intro j hj k hk
    obtain ⟨k, rfl⟩ : ∃ k', k = k' + 1 := ⟨k - 1, by omega⟩
    have e1 : wrap64 ((j : Int) + 1) = ((j + 1 : Nat) : Int) := by rw [wrap_mid _ (by omega) (by omega)]; push_cast; rfl
    rw [placketref07_Run.l0, if_pos (by omega), if_pos (by rw [runL_length]; omega), e1, ← runL_succ]
    exact ih (j + 1) (by omega) k (by omega)

theorem run_c (x n : Int) (hn : n ≤ 1000000) (w : World) : Calls Try.prog 10 #[.int .i64 x, .int .i64 n] w (Ret (fun u w' => Own w.heap.size w' u (runL x n.toNat)) w) := by
  have h0 : placketref07_Run.f (n.toNat + 1) x n = some (runL x n.toNat) := run_l0 x n hn n.toNat 0 (by omega) _ (by omega)
  refine (placketref07_Run.calls (n.toNat + 1) x n _ w h0).mono ?_
  rintro e w' ⟨v, rfl, hR, hb⟩
  exact ⟨v, rfl, Own.of_R hR, hb⟩

theorem copied_f (xs : List Int) (hl : xs.length ≤ 1000000) : placketref07_Copied.f xs = some xs := by
  unfold placketref07_Copied.f
  simp only [Option.bind_some, List.length_nil, List.nil_append]
  rw [if_pos (by omega)]

theorem copied_c (K : Nat → Prop) (s : Value) (xs : List Int) (hl : xs.length ≤ 1000000) (w : World) (h : SlV K w s (ints xs)) : Calls Try.prog 45 #[s] w (Ret (fun u w' => Own w.heap.size w' u xs) w) := by
  obtain ⟨A, n, c, rfl⟩ := h.form
  obtain ⟨rfl, hC, hc⟩ := (slv_toC h)
  refine (placketref07_Copied.calls A c xs xs w hC hc (copied_f xs hl)).mono ?_
  rintro e w' ⟨v, rfl, hR, hb⟩
  exact ⟨v, rfl, Own.of_R hR, hb⟩

theorem rset_in (K : Nat → Prop) (s : Value) (xs : List Int) (hl : xs.length ≤ 1000000) (i x : Int) (hi : 0 ≤ i ∧ i < xs.length) (w : World) (h : SlV K w s (ints xs)) :
    Calls Try.prog 42 #[s, .int .i64 i, .int .i64 x] w (Ret (fun u w' => ∃ v, u = .tuple #[v, .int .i64 0] ∧ Own w.heap.size w' v (xs.set i.toNat x)) w) := by
  obtain ⟨A, n, c, rfl⟩ := h.form
  obtain ⟨rfl, hC, hc⟩ := (slv_toC h)
  have hf : placketref07_Set.f xs i x = some (xs.set i.toNat x, 0) := by
    unfold placketref07_Set.f
    rw [if_neg (by omega), if_neg (by omega), copied_f xs hl, Option.bind_some, if_pos (by omega), if_pos (by omega)]
  refine (placketref07_Set.calls A c xs i x _ _ w hC hc hf).mono ?_
  rintro e w' ⟨v, rfl, hR, hb⟩
  exact ⟨_, rfl, ⟨v, rfl, Own.of_R hR⟩, hb⟩

theorem rset_no (K : Nat → Prop) (s : Value) (xs : List Int) (i x : Int) (hi : ¬ (0 ≤ i ∧ i < xs.length)) (w : World) (h : SlV K w s (ints xs)) :
    Calls Try.prog 42 #[s, .int .i64 i, .int .i64 x] w (Ret (fun u w' => ∃ v, u = .tuple #[v, .int .i64 4] ∧ Own w.heap.size w' v []) w) := by
  obtain ⟨A, n, c, rfl⟩ := h.form
  obtain ⟨rfl, hC, hc⟩ := (slv_toC h)
  have hf : placketref07_Set.f xs i x = some ([], 4) := by
    unfold placketref07_Set.f
    by_cases h0 : i < 0
    · rw [if_pos h0]
    · rw [if_neg h0, if_pos (by omega)]
  refine (placketref07_Set.calls A c xs i x _ _ w hC hc hf).mono ?_
  rintro e w' ⟨v, rfl, hR, hb⟩
  exact ⟨_, rfl, ⟨v, rfl, Own.of_R hR⟩, hb⟩

theorem rget_in (K : Nat → Prop) (s : Value) (xs : List Int) (i x : Int) (h0 : 0 ≤ i) (hx : xs[i.toNat]? = some x) (w : World) (h : SlV K w s (ints xs)) :
    Calls Try.prog 19 #[s, .int .i64 i] w (Ret (fun v w' => v = .tuple #[.int .i64 x, .bool true]) w) := by
  obtain ⟨A, n, c, rfl⟩ := h.form
  obtain ⟨rfl, hC, hc⟩ := (slv_toC h)
  have hl : i.toNat < xs.length := (List.getElem?_eq_some_iff.1 hx).1
  have hf : placketref07_Get.f xs i = some (x, true) := by
    unfold placketref07_Get.f
    rw [if_neg (by omega), if_neg (by omega), if_pos (by omega), if_pos (by omega)]
    simp [rd, List.getD_eq_getElem?_getD, hx]
  refine (placketref07_Get.calls A c xs i _ _ w hC hc hf).mono ?_
  rintro e w' ⟨rfl, hD⟩
  exact ⟨_, rfl, rfl, hD.below⟩

theorem rget_no (K : Nat → Prop) (s : Value) (xs : List Int) (i : Int) (hi : ¬ (0 ≤ i ∧ i < xs.length)) (w : World) (h : SlV K w s (ints xs)) :
    Calls Try.prog 19 #[s, .int .i64 i] w (Ret (fun v w' => v = .tuple #[.int .i64 0, .bool false]) w) := by
  obtain ⟨A, n, c, rfl⟩ := h.form
  obtain ⟨rfl, hC, hc⟩ := (slv_toC h)
  have hf : placketref07_Get.f xs i = some (0, false) := by
    unfold placketref07_Get.f
    by_cases h0 : i < 0
    · rw [if_pos h0]
    · rw [if_neg h0, if_pos (by omega)]
  refine (placketref07_Get.calls A c xs i _ _ w hC hc hf).mono ?_
  rintro e w' ⟨rfl, hD⟩
  exact ⟨_, rfl, rfl, hD.below⟩

theorem same_l0 (xs : List Int) (hl : xs.length ≤ 1000000) : ∀ (i j : Nat), j + i = xs.length → ∀ k, i + 1 ≤ k → placketref07_Same.l0 k xs xs (xs.length : Int) (j : Int) = some true := by
  intro i
  induction i with
  | zero =>
    intro j hj k hk
    obtain ⟨k, rfl⟩ : ∃ k', k = k' + 1 := ⟨k - 1, by omega⟩
    rw [placketref07_Same.l0, if_neg (by omega)]
  | succ i ih =>
    intro j hj k hk
    obtain ⟨k, rfl⟩ : ∃ k', k = k' + 1 := ⟨k - 1, by omega⟩
    have e1 : wrap64 ((j : Int) + 1) = ((j + 1 : Nat) : Int) := by rw [wrap_mid _ (by omega) (by omega)]; push_cast; rfl
    rw [placketref07_Same.l0, if_pos (by omega), if_pos (by omega), if_pos (by omega), if_pos (by omega), if_pos rfl, e1]
    exact ih (j + 1) (by omega) k (by omega)

theorem rsame_c (K K' : Nat → Prop) (s u : Value) (xs : List Int) (hl : xs.length ≤ 1000000) (w : World) (h : SlV K w s (ints xs)) (h' : SlV K' w u (ints xs)) :
    Calls Try.prog 13 #[s, u] w (Ret (fun v w' => v = .bool true) w) := by
  obtain ⟨A, n, c, rfl⟩ := h.form
  obtain ⟨rfl, hC, hc⟩ := (slv_toC h)
  obtain ⟨A', n', c', rfl⟩ := h'.form
  obtain ⟨rfl, hC', hc'⟩ := (slv_toC h')
  have hf : placketref07_Same.f (xs.length + 1) xs xs = some true := by
    unfold placketref07_Same.f
    rw [if_pos rfl]
    exact same_l0 xs hl xs.length 0 (by omega) _ (by omega)
  refine (placketref07_Same.calls _ A c xs A' c' xs _ w hC hc hC' hc' hf).mono ?_
  rintro e w' ⟨rfl, hD⟩
  exact ⟨_, rfl, rfl, hD.below⟩

theorem join_f (xs ys : List Int) (hl : xs.length ≤ 1000000) (hl' : ys.length ≤ 1000000) : placketref08_Join.f xs ys = some (xs ++ ys) := by
  unfold placketref08_Join.f
  rw [copied_f xs hl, Option.bind_some, if_pos (by omega)]

theorem rjoin_c (K K' : Nat → Prop) (s u : Value) (xs ys : List Int) (hl : xs.length ≤ 1000000) (hl' : ys.length ≤ 1000000) (w : World) (h : SlV K w s (ints xs)) (h' : SlV K' w u (ints ys)) :
    Calls Try.prog 32 #[s, u] w (Ret (fun v w' => Own w.heap.size w' v (xs ++ ys)) w) := by
  obtain ⟨A, n, c, rfl⟩ := h.form
  obtain ⟨rfl, hC, hc⟩ := (slv_toC h)
  obtain ⟨A', n', c', rfl⟩ := h'.form
  obtain ⟨rfl, hC', hc'⟩ := (slv_toC h')
  refine (placketref08_Join.calls A c xs A' c' ys _ w hC hc hC' hc' (join_f xs ys hl hl')).mono ?_
  rintro e w' ⟨v, rfl, hR, hb⟩
  exact ⟨v, rfl, Own.of_R hR, hb⟩

theorem rinsert_in (K : Nat → Prop) (s : Value) (xs : List Int) (hl : xs.length ≤ 900000) (i x : Int) (hi : 0 ≤ i ∧ i ≤ xs.length) (w : World) (h : SlV K w s (ints xs)) :
    Calls Try.prog 40 #[s, .int .i64 i, .int .i64 x] w (Ret (fun u w' => ∃ v, u = .tuple #[v, .int .i64 0] ∧ Own w.heap.size w' v (xs.take i.toNat ++ x :: xs.drop i.toNat)) w) := by
  obtain ⟨A, n, c, rfl⟩ := h.form
  obtain ⟨rfl, hC, hc⟩ := (slv_toC h)
  have hf : placketref08_Insert.f 1 xs i x = some (xs.take i.toNat ++ x :: xs.drop i.toNat, 0) := by
    unfold placketref08_Insert.f
    rw [if_neg (by omega), placketref08_Insert.j0, if_neg (by simp; omega), if_pos (by omega), if_pos (by omega), join_f _ _ (by rw [List.length_take]; omega) (by simp), Option.bind_some, join_f _ _ (by simp; omega) (by simp; omega), Option.bind_some]
    simp
  refine (placketref08_Insert.calls 1 A c xs i x _ _ w hC hc hf).mono ?_
  rintro e w' ⟨v, rfl, hR, hb⟩
  exact ⟨_, rfl, ⟨v, rfl, Own.of_R hR⟩, hb⟩

theorem rinsert_no (K : Nat → Prop) (s : Value) (xs : List Int) (i x : Int) (hi : ¬ (0 ≤ i ∧ i ≤ xs.length)) (w : World) (h : SlV K w s (ints xs)) :
    Calls Try.prog 40 #[s, .int .i64 i, .int .i64 x] w (Ret (fun u w' => ∃ v, u = .tuple #[v, .int .i64 4] ∧ Own w.heap.size w' v []) w) := by
  obtain ⟨A, n, c, rfl⟩ := h.form
  obtain ⟨rfl, hC, hc⟩ := (slv_toC h)
  have hf : placketref08_Insert.f 1 xs i x = some ([], 4) := by
    unfold placketref08_Insert.f
    by_cases h0 : i < 0
    · rw [if_pos h0, placketref08_Insert.j0, if_pos rfl]
    · rw [if_neg h0, placketref08_Insert.j0, if_pos (by simp; omega)]
  refine (placketref08_Insert.calls 1 A c xs i x _ _ w hC hc hf).mono ?_
  rintro e w' ⟨v, rfl, hR, hb⟩
  exact ⟨_, rfl, ⟨v, rfl, Own.of_R hR⟩, hb⟩

theorem rremove_in (K : Nat → Prop) (s : Value) (xs : List Int) (hl : xs.length ≤ 1000000) (i : Int) (hi : 0 ≤ i ∧ i < xs.length) (w : World) (h : SlV K w s (ints xs)) :
    Calls Try.prog 43 #[s, .int .i64 i] w (Ret (fun u w' => ∃ v, u = .tuple #[v, .int .i64 0] ∧ Own w.heap.size w' v (xs.take i.toNat ++ (xs.drop i.toNat).drop 1)) w) := by
  obtain ⟨A, n, c, rfl⟩ := h.form
  obtain ⟨rfl, hC, hc⟩ := (slv_toC h)
  have hf : placketref08_Remove.f xs i = some (xs.take i.toNat ++ (xs.drop i.toNat).drop 1, 0) := by
    unfold placketref08_Remove.f
    have e : wrap64 (i + 1) = i + 1 := wrap_mid _ (by omega) (by omega)
    rw [if_neg (by omega), if_neg (by omega), if_pos (by omega), if_pos (by omega), e, if_pos (by omega), if_pos (by omega), join_f _ _ (by rw [List.length_take]; omega) (by rw [List.length_drop]; omega), Option.bind_some, List.drop_drop, show (i + 1).toNat = i.toNat + 1 by omega]
  refine (placketref08_Remove.calls A c xs i _ _ w hC hc hf).mono ?_
  rintro e w' ⟨v, rfl, hR, hb⟩
  exact ⟨_, rfl, ⟨v, rfl, Own.of_R hR⟩, hb⟩

theorem rremove_no (K : Nat → Prop) (s : Value) (xs : List Int) (i : Int) (hi : ¬ (0 ≤ i ∧ i < xs.length)) (w : World) (h : SlV K w s (ints xs)) :
    Calls Try.prog 43 #[s, .int .i64 i] w (Ret (fun u w' => ∃ v, u = .tuple #[v, .int .i64 4] ∧ Own w.heap.size w' v []) w) := by
  obtain ⟨A, n, c, rfl⟩ := h.form
  obtain ⟨rfl, hC, hc⟩ := (slv_toC h)
  have hf : placketref08_Remove.f xs i = some ([], 4) := by
    unfold placketref08_Remove.f
    by_cases h0 : i < 0
    · rw [if_pos h0]
    · rw [if_neg h0, if_pos (by omega)]
  refine (placketref08_Remove.calls A c xs i _ _ w hC hc hf).mono ?_
  rintro e w' ⟨v, rfl, hR, hb⟩
  exact ⟨_, rfl, ⟨v, rfl, Own.of_R hR⟩, hb⟩

/-- where a cut's end lies -/
def bnd (a n : Int) : Int := if a < 0 then (if n + a < 0 then 0 else n + a) else (if a ≤ n then a else n)
theorem bnd_in (a n : Int) (h : 0 ≤ n) : 0 ≤ bnd a n ∧ bnd a n ≤ n := by unfold bnd; split <;> split <;> omega
/-- the cut's end behind -/
def bnd2 (a b n : Int) : Int := if bnd a n ≤ bnd b n then bnd b n else bnd a n
theorem bnd2_in (a b n : Int) (h : 0 ≤ n) : bnd a n ≤ bnd2 a b n ∧ bnd2 a b n ≤ n := by
  have h1 := bnd_in a n h
  have h2 := bnd_in b n h
  unfold bnd2; split <;> omega
/-- a list's piece -/
def cutL (xs : List Int) (a b : Int) : List Int := (xs.take (bnd2 a b xs.length).toNat).drop (bnd a xs.length).toNat
def Wf (a : Int) : Prop := -9223372036854775808 ≤ a ∧ a ≤ 9223372036854775807

theorem wrap_wide (a : Int) (h : Wf a) : wrap64 a = a := by unfold Wf at h; unfold wrap64; omega

theorem bound_f (a n : Int) (h : Wf a) (h0 : 0 ≤ n) (hn : n ≤ 1000000) : num_bound.f a n = some (bnd a n) := by
  unfold num_bound.f bnd
  by_cases h1 : a < 0
  · rw [if_pos h1, if_pos h1, wrap_wide _ (by unfold Wf at *; omega)]
    unfold mx
    congr 1
    split <;> omega
  · rw [if_neg h1, if_neg h1]
    unfold mn
    congr 1
    split <;> omega

theorem edge_f (a n : Int) (h : Wf a) (h0 : 0 ≤ n) (hn : n ≤ 1000000) : placketref01_edge.f a n = some (bnd a n) := by
  unfold placketref01_edge.f bnd
  have e : wrap64 (-n) = -n := wrap_wide _ (by unfold Wf at *; omega)
  by_cases h1 : a < 0
  · have e2 : wrap64 (n + a) = n + a := wrap_wide _ (by unfold Wf at *; omega)
    rw [if_neg (by omega), if_neg (by omega), if_pos h1, e, e2]
    by_cases h2 : n + a < 0
    · rw [if_pos (by omega), if_pos h2]
    · rw [if_neg (by omega), if_neg h2]
  · rw [if_neg h1]
    by_cases h2 : a ≤ n
    · rw [if_neg (by omega), if_pos (by omega), if_pos h2]
    · rw [if_pos (by omega), if_neg h2]

theorem mx_bnd (a b n : Int) : mx (bnd a n) (bnd b n) = bnd2 a b n := by unfold mx bnd2; split <;> omega

theorem ncut_f (a b n : Int) (ha : Wf a) (hb : Wf b) (h0 : 0 ≤ n) (hn : n ≤ 1000000) : num_Cut.f a b n = some (bnd a n, bnd2 a b n) := by
  unfold num_Cut.f
  have e : mx 0 n = n := by unfold mx; omega
  rw [e, bound_f a n ha h0 hn, Option.bind_some, bound_f b n hb h0 hn, Option.bind_some, mx_bnd]

theorem rcut_f (a b n : Int) (ha : Wf a) (hb : Wf b) (h0 : 0 ≤ n) (hn : n ≤ 1000000) : placketref01_Cut.f a b n = some (bnd a n, bnd2 a b n) := by
  unfold placketref01_Cut.f
  have e : mx n 0 = n := by unfold mx; omega
  rw [e, edge_f a n ha h0 hn, Option.bind_some, edge_f b n hb h0 hn, Option.bind_some, mx_bnd]

theorem rslice_c (K : Nat → Prop) (s : Value) (xs : List Int) (hl : xs.length ≤ 1000000) (a b : Int) (ha : Wf a) (hb : Wf b) (w : World) (h : SlV K w s (ints xs)) :
    Calls Try.prog 44 #[s, .int .i64 a, .int .i64 b] w (Ret (fun v w' => Own w.heap.size w' v (cutL xs a b)) w) := by
  obtain ⟨A, n, c, rfl⟩ := h.form
  obtain ⟨rfl, hC, hc⟩ := (slv_toC h)
  have h1 := bnd_in a xs.length (by omega)
  have h2 := bnd2_in a b xs.length (by omega)
  have hf : placketref08_Slice.f xs a b = some (cutL xs a b) := by
    unfold placketref08_Slice.f
    rw [rcut_f a b _ ha hb (by omega) (by omega), Option.bind_some, if_pos (by exact h1.1), if_pos (by exact h2.1), if_pos (by exact h2.2), copied_f _ (by rw [List.length_drop, List.length_take]; omega), Option.bind_some]
    rfl
  refine (placketref08_Slice.calls A c xs a b _ w hC hc hf).mono ?_
  rintro e w' ⟨v, rfl, hR, hb⟩
  exact ⟨_, rfl, Own.of_R hR, hb⟩
end Go.Proofs.Ytcjpdjecgeenfaa.Ro
