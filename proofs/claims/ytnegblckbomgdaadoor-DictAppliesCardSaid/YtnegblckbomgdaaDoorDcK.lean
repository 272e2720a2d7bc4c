/- How two maps differ, by rising keys: the walk. -/
import Derived.Test.YtnegblckbomgdaaDoorDcJ
import Derived.Deep.DeepCutAuto
import Derived.WalkMore
set_option linter.unusedVariables false
set_option linter.unusedSimpArgs false
namespace Go.Proofs.YtnegblckbomgdaaDoor.Ht
open Go Go.RowKit Go.Shelf Go.Proofs.YtnegblckbomgdaaDoor.Mem Go.Proofs.YtnegblckbomgdaaDoor.PA Go.Proofs.YtnegblckbomgdaaDoorW.PrintWords Go.Proofs.YtnegblckbomgdaaDoor.U64 Go.Proofs.YtnegblckbomgdaaDoor.Bs Go.Proofs.YtnegblckbomgdaaDoor

abbrev CSL : TypeId := 78
theorem info_ch : (Tryd.prog.info? CHT).map (fun i => (i.zero, i.size, i.bytes)) = some (some (.agg #[.string ⟨#[]⟩, .bool false, .bool false, .int .i64 0, .int .i64 0]), 5, 40) := by kernel_rfl
def chc (d : Ch) : List Value := [.string d.f0, .bool d.f1, .bool d.f2, .int .i64 d.f3, .int .i64 d.f4]
def chs (D : List Ch) : List Value := D.flatMap chc
theorem chs_snoc (D : List Ch) (d : Ch) : chs (D ++ [d]) = chs D ++ chc d := by simp [chs]
theorem chs_get (D : List Ch) (j : Nat) (d : Ch) (hd : D[j]? = some d) (t : Nat) (u : Value) (hu : (chc d)[t]? = some u) : (chs D)[j * 5 + t]? = some u := by
  induction D generalizing j with
  | nil => cases hd
  | cons e D ih =>
    have he : (chc e).length = 5 := rfl
    have ht : t < 5 := (List.getElem?_eq_some_iff.1 hu).1
    cases j with
    | zero =>
      simp at hd; subst hd
      show (chc e ++ chs D)[0 * 5 + t]? = some u
      rw [List.getElem?_append_left (by omega), show 0 * 5 + t = t by omega]; exact hu
    | succ j =>
      show (chc e ++ chs D)[(j + 1) * 5 + t]? = some u
      rw [List.getElem?_append_right (by omega), he, show (j + 1) * 5 + t - 5 = j * 5 + t by omega]
      exact ih j (by simpa using hd)
theorem row_keep {W W' : World} {base n size : Nat} {e : TypeId} {v : Value} {xs : List Value} (h : W.ownsRow base e size v n xs) (hk : ∀ k, v.ownBlock = some k → W'.heap[k]? = W.heap[k]?) : W'.ownsRow base e size v n xs := by
  refine ⟨h.1, ?_⟩
  rcases h.2 with h2 | ⟨g, cap, cur, rfl, hb, hg, hr⟩
  · exact Or.inl h2
  · exact Or.inr ⟨g, cap, cur, rfl, hb, (hk g rfl).trans hg, hr⟩
theorem row_below {W W' : World} {base n size : Nat} {e : TypeId} {v : Value} {xs : List Value} (h : W.ownsRow base e size v n xs) (hb : Below W.heap.size W W') : W'.ownsRow base e size v n xs :=
  row_keep h fun k hk => hb.block k (h.lt k hk).2
theorem row_setc {W : World} {base n size : Nat} {e : TypeId} {v : Value} {xs : List Value} {g j : Nat} {u : Value} (h : W.ownsRow base e size v n xs) (hn : ∀ k, v.ownBlock = some k → k ≠ g) : (W.setCell ⟨g, j, none⟩ u).ownsRow base e size v n xs :=
  row_keep h fun k hk => Below.heap_setCell _ _ _ _ (hn k hk)
theorem chv_of_row {W : World} {base : Nat} {v : Value} {D : List Ch} (h : W.ownsRow base CHT 5 v D.length (chs D)) : ChV W v D := by
  have h0 := h
  rcases h.2 with ⟨rfl, h1⟩ | ⟨g, cap, cur, rfl, hb, hg, hn, hm, hs, ht⟩
  · obtain rfl := List.eq_nil_of_length_eq_zero h1
    exact ⟨none, 0, rfl, Nat.le_refl _, rfl, by simp, fun hp => absurd hp (by simp)⟩
  · refine ⟨_, cap, rfl, hn, rfl, by unfold maxLen at hm; omega, fun hp => ⟨_, rfl, fun j x hj => ?_⟩⟩
    refine ⟨chc x, rfl, ⟨k92_mk W x, fun t u hu => ?_⟩⟩
    exact h0.cells rfl _ _ (chs_get D j x hj t u hu)
theorem drop_at {α : Type} {L : List α} {i : Nat} {e : α} (h : L[i]? = some e) : L.drop i = e :: L.drop (i + 1) := by
  obtain ⟨hi, rfl⟩ := List.getElem?_eq_some_iff.1 h
  exact List.drop_eq_getElem_cons hi

theorem step_b (sm : Int → Int → Bool) {L M : List Pr} {i k : Nat} {e : Pr} (hi : L.length ≤ i) (he : M[k]? = some e) : diffL sm (L.drop i) (M.drop k) = ⟨e.1, false, true, 0, e.2⟩ :: diffL sm (L.drop i) (M.drop (k + 1)) := by
  rw [List.drop_eq_nil_of_le hi, drop_at he, diffL]
theorem step_a (sm : Int → Int → Bool) {L M : List Pr} {i k : Nat} {e : Pr} (hk : M.length ≤ k) (he : L[i]? = some e) : diffL sm (L.drop i) (M.drop k) = ⟨e.1, true, false, e.2, 0⟩ :: diffL sm (L.drop (i + 1)) (M.drop k) := by
  rw [List.drop_eq_nil_of_le hk, drop_at he, diffL]
theorem step_lt (sm : Int → Int → Bool) {L M : List Pr} {i k : Nat} {e f : Pr} (he : L[i]? = some e) (hf : M[k]? = some f) (h : klt e.1 f.1 = true) : diffL sm (L.drop i) (M.drop k) = ⟨e.1, true, false, e.2, 0⟩ :: diffL sm (L.drop (i + 1)) (M.drop k) := by
  rw [drop_at he, drop_at hf, diffL, if_pos h]
theorem step_gt (sm : Int → Int → Bool) {L M : List Pr} {i k : Nat} {e f : Pr} (he : L[i]? = some e) (hf : M[k]? = some f) (h0 : ¬ klt e.1 f.1 = true) (h : klt f.1 e.1 = true) : diffL sm (L.drop i) (M.drop k) = ⟨f.1, false, true, 0, f.2⟩ :: diffL sm (L.drop i) (M.drop (k + 1)) := by
  rw [drop_at he, drop_at hf, diffL, if_neg h0, if_pos h]
theorem step_same (sm : Int → Int → Bool) {L M : List Pr} {i k : Nat} {e f : Pr} (he : L[i]? = some e) (hf : M[k]? = some f) (h0 : ¬ klt e.1 f.1 = true) (h1 : ¬ klt f.1 e.1 = true) (h : sm e.2 f.2 = true) : diffL sm (L.drop i) (M.drop k) = diffL sm (L.drop (i + 1)) (M.drop (k + 1)) := by
  rw [drop_at he, drop_at hf, diffL, if_neg h0, if_neg h1, if_pos h]
theorem step_diff (sm : Int → Int → Bool) {L M : List Pr} {i k : Nat} {e f : Pr} (he : L[i]? = some e) (hf : M[k]? = some f) (h0 : ¬ klt e.1 f.1 = true) (h1 : ¬ klt f.1 e.1 = true) (h : ¬ sm e.2 f.2 = true) : diffL sm (L.drop i) (M.drop k) = ⟨f.1, true, true, e.2, f.2⟩ :: diffL sm (L.drop (i + 1)) (M.drop (k + 1)) := by
  rw [drop_at he, drop_at hf, diffL, if_neg h0, if_neg h1, if_neg h]
theorem app_step {sm : Int → Int → Bool} {L M : List Pr} {P : List Ch} {d : Ch} {X Y : List Ch} (h : diffL sm L M = P ++ X) (hX : X = d :: Y) : diffL sm L M = (P ++ [d]) ++ Y := by rw [h, hX]; simp
theorem box5 {w : World} {g : Nat} {a b c d e : Value} {t : TypeId} (h : w.heap[g]? = some (.cells #[a, b, c, d, e] t (0, 0))) : (w.cell? ⟨g, 0, none⟩ = some a ∧ w.cell? ⟨g, 1, none⟩ = some b ∧ w.cell? ⟨g, 2, none⟩ = some c ∧ w.cell? ⟨g, 3, none⟩ = some d ∧ w.cell? ⟨g, 4, none⟩ = some e) ∧ w.frozen? ⟨g, 0, none⟩ = false ∧ w.frozen? ⟨g, 1, none⟩ = false ∧ w.frozen? ⟨g, 2, none⟩ = false ∧ w.frozen? ⟨g, 3, none⟩ = false ∧ w.frozen? ⟨g, 4, none⟩ = false :=
  ⟨⟨blk_cell h 0, blk_cell h 1, blk_cell h 2, blk_cell h 3, blk_cell h 4⟩, blk_frozen h 0, blk_frozen h 1, blk_frozen h 2, blk_frozen h 3, blk_frozen h 4⟩

def ChI (sm : Int → Int → Bool) (L M : List Pr) (w6 : World) (kq : Nat) (v7 v10 v11 : Value) (wr : World) (_u : Unit) : Prop :=
  ∃ (i k : Nat) (P : List Ch), v10 = .int .i64 (i : Int) ∧ v11 = .int .i64 (k : Int) ∧ i ≤ L.length ∧ k ≤ M.length ∧ (L.length - i) + (M.length - k) ≤ kq ∧ P.length ≤ i + k ∧ diffL sm L M = P ++ diffL sm (L.drop i) (M.drop k) ∧
    wr.ownsRow w6.heap.size CHT 5 v7 P.length (chs P) ∧ Below w6.heap.size w6 wr
/-- the boxes of the two maps -/
def Bx2 (w : World) (y b n : Int) (p : Option Addr) (y' b' n' : Int) (p' : Option Addr) (V : World) : Prop := V.heap[w.heap.size]? = some (.cells #[.int .u64 y, .int .i64 b, .int .i64 n, .pointer p] MT (0, 0)) ∧ V.heap[w.heap.size + 1]? = some (.cells #[.int .u64 y', .int .i64 b', .int .i64 n', .pointer p'] MT (0, 0))
theorem Bx2.below {w V V' : World} {y b n y' b' n' : Int} {p p' : Option Addr} (h : Bx2 w y b n p y' b' n' p' V) (hb : Below V.heap.size V V') : Bx2 w y b n p y' b' n' p' V' := ⟨blk_below h.1 hb, blk_below h.2 hb⟩

set_option maxRecDepth 100000 in
set_option maxHeartbeats 16000000 in
theorem changes_eq (c d : Cf) (K K' : Nat → Prop) (L M : List Pr) (y b n : Int) (p : Option Addr) (y' b' n' : Int) (p' : Option Addr) (sm : Int → Int → Bool) (w : World) (hM : MapV c K w (.agg #[.int .u64 y, .int .i64 b, .int .i64 n, .pointer p]) L) (hM' : MapV d K' w (.agg #[.int .u64 y', .int .i64 b', .int .i64 n', .pointer p']) M) (hl : L.length ≤ 1000) (hl' : M.length ≤ 1000) (hT : Tab w)
    (hsm : ∀ (x z : Int) V, Below w.heap.size w V → Calls Tryd.prog 69 #[.int .i64 x, .int .i64 z] V (Ret (fun u _ => u = .bool (sm x z)) V)) :
    Calls Tryd.prog 49 #[.agg #[.int .u64 y, .int .i64 b, .int .i64 n, .pointer p], .agg #[.int .u64 y', .int .i64 b', .int .i64 n', .pointer p'], .func (.func 69) #[] #[]] w (Ret (fun u w' => ChV w' u (diffL sm L M)) w) := by
  obtain ⟨i0, hi, hz0, hz1, hz2⟩ := info_parts info_ch
  obtain ⟨-, -, -, -, -, -, hS, hSm⟩ := mform hM
  obtain ⟨-, -, -, -, -, -, hS', hSm'⟩ := mform hM'
  have HKA := Lib.hid fun V (hw : Below w.heap.size w V) => keys_c c K _ L V (hM.below hw) hl (hT.below hw)
  have HKB := Lib.hid fun V (hw : Below w.heap.size w V) => keys_c d K' _ M V (hM'.below hw) hl' (hT.below hw)
  have HGA := Lib.hid fun (j : Nat) (e : Pr) (he : L[j]? = some e) V (hw : Below w.heap.size w V) => (show Calls Tryd.prog 27 #[.agg #[.int .u64 y, .int .i64 b, .int .i64 n, .pointer p], .string e.1] V (Ret (fun v _ => v = .tuple #[.int .i64 e.2, .bool true]) V) from got_at' hS he ▸ mget_c c K _ L e.1 (hSm e (List.mem_of_getElem? he)) V (hM.below hw) (by omega))
  have HGB := Lib.hid fun (j : Nat) (e : Pr) (he : M[j]? = some e) V (hw : Below w.heap.size w V) => (show Calls Tryd.prog 27 #[.agg #[.int .u64 y', .int .i64 b', .int .i64 n', .pointer p'], .string e.1] V (Ret (fun v _ => v = .tuple #[.int .i64 e.2, .bool true]) V) from got_at' hS' he ▸ mget_c d K' _ M e.1 (hSm' e (List.mem_of_getElem? he)) V (hM'.below hw) (by omega))
  have HSM := Lib.hid hsm
  have HOR := Lib.hid fun (a e : ByteArray) V => qorder_c a e V
  obtain ⟨N1, hN1⟩ : ∃ N, N = L.length := ⟨_, rfl⟩
  obtain ⟨N2, hN2⟩ : ∃ N, N = M.length := ⟨_, rfl⟩
  have HN1 := Lib.hid hN1; have HN2 := Lib.hid hN2
  have hNI : (N1 : Int) ≤ 1000 := by omega
  have hNI2 : (N2 : Int) ≤ 1000 := by omega
  have hB0 := ((Below.refl w.heap.size w).alloc (Nat.le_refl _) (.cells #[.int .u64 y, .int .i64 b, .int .i64 n, .pointer p] MT)).alloc (by simp) (.cells #[.int .u64 y', .int .i64 b', .int .i64 n', .pointer p'] MT)
  have HB0 := Lib.hid hB0
  have HX0 := Lib.hid (show Bx2 w y b n p y' b' n' p' ((w.alloc (.cells #[.int .u64 y, .int .i64 b, .int .i64 n, .pointer p] MT)).alloc (.cells #[.int .u64 y', .int .i64 b', .int .i64 n', .pointer p'] MT)) from ⟨blk_alloc (blk_new w (.cells #[.int .u64 y, .int .i64 b, .int .i64 n, .pointer p] MT)) (.cells #[.int .u64 y', .int .i64 b', .int .i64 n', .pointer p'] MT), heap_k1 w (.cells #[.int .u64 y, .int .i64 b, .int .i64 n, .pointer p] MT) (.cells #[.int .u64 y', .int .i64 b', .int .i64 n', .pointer p'] MT)⟩)
  clear hM hM' hl hl' hT hS hS' hSm hSm' hN1 hN2 hB0 hsm
  go_enter Tryd.func49, Tryd.ntmps49
  go_wp2_with fail
  go_step3
  go_wp2_with fail
  generalize (w.alloc (.cells #[.int .u64 y, .int .i64 b, .int .i64 n, .pointer p] MT)).alloc (.cells #[.int .u64 y', .int .i64 b', .int .i64 n', .pointer p'] MT) = V0 at *
  obtain ⟨⟨a0, a1, a2, a3⟩, -⟩ := box4 HX0.out.1
  obtain ⟨⟨c0, c1, c2, c3⟩, -⟩ := box4 HX0.out.2
  have hg : w.heap.size ≤ V0.heap.size := HB0.out.size
  go_region_held3 (fun w' => (w'.cell? ⟨w.heap.size, 0, none⟩ = some (.int .u64 y) ∧ w'.cell? ⟨w.heap.size, 1, none⟩ = some (.int .i64 b) ∧ w'.cell? ⟨w.heap.size, 2, none⟩ = some (.int .i64 n) ∧ w'.cell? ⟨w.heap.size, 3, none⟩ = some (.pointer p)) ∧ w'.cell? ⟨w.heap.size + 1, 0, none⟩ = some (.int .u64 y') ∧ w'.cell? ⟨w.heap.size + 1, 1, none⟩ = some (.int .i64 b') ∧ w'.cell? ⟨w.heap.size + 1, 2, none⟩ = some (.int .i64 n') ∧ w'.cell? ⟨w.heap.size + 1, 3, none⟩ = some (.pointer p'))
    ((refine ⟨⟨?_, ?_, ?_, ?_⟩, ?_, ?_, ?_, ?_⟩ <;> first | (with_reducible assumption) | (with_reducible exact cell_below a0 (by assumption)) | (with_reducible exact cell_below a1 (by assumption)) | (with_reducible exact cell_below a2 (by assumption)) | (with_reducible exact cell_below a3 (by assumption)) | (with_reducible exact cell_below c0 (by assumption)) | (with_reducible exact cell_below c1 (by assumption)) | (with_reducible exact cell_below c2 (by assumption)) | (with_reducible exact cell_below c3 (by assumption)) | (go_keep; done)))
    (first
      | (go_at_call 26; (with_reducible refine (HKA.out _ (HB0.out.drew)).mono ?_); rintro e w5 ⟨v, rfl, hs5, hb5⟩; have hb5 := below_trans (w1 := World.drew _) (Below.refl _ _).drew hb5)
      | (go_at_call 26; (with_reducible refine (HKB.out _ (below_trans HB0.out hb5)).mono ?_); rintro e w6 ⟨v, rfl, hs6, hb6⟩; have hs5 := SlV.below hs5 hb6; have hb6 := below_trans hb5 hb6)
      | fail)
  have HX6 := Lib.hid (HX0.out.below hb6)
  have H6 := Lib.hid (below_trans HB0.out hb6)
  obtain ⟨Ak, ck, he⟩ := SlV.form' hs5
  rw [ksV_length, ← HN1.out] at he; subst he
  obtain ⟨Am, cm, he⟩ := SlV.form' hs6
  rw [ksV_length, ← HN2.out] at he; subst he
  have HSA := Lib.hid hs5; have HSB := Lib.hid hs6
  clear a0 a1 a2 a3 c0 c1 c2 c3 hb5 hb6 hs5 hs6 hg
  go_wp2_with fail
  go_step3
  go_wp2_with fail
  go_loopg [7, 10, 11] (N1 + N2) (fun kq v7 v10 v11 wr => Aside (ChI sm L M w6 kq v7 v10 v11 wr ()))
  case atStart =>
    show ChI _ _ _ _ _ _ _ _ _ _
    exact ⟨0, 0, [], rfl, rfl, Nat.zero_le _, Nat.zero_le _, by rw [← HN1.out, ← HN2.out]; simp, by simp, by simp, World.ownsRow_nil _ _ _ _, Below.refl _ _⟩
  case round =>
    obtain ⟨i, k, P, rfl, rfl, hi1, hk1, hm, hPl, hD, hrow, hB⟩ := hrel.out
    clear hrel
    rw [← HN1.out] at hi1 hm
    rw [← HN2.out] at hk1 hm
    have hX := HX6.out.below hB
    have hrl := fun k hk => (hrow.lt k hk).2
    have hBw := below_trans H6.out hB
    have hbl := (Below.refl wr.heap.size wr).alloc (Nat.le_refl _) (.cells #[.string ⟨#[]⟩, .bool false, .bool false, .int .i64 0, .int .i64 0] CHT)
    obtain ⟨nP, hnP⟩ : ∃ nP, nP = P.length := ⟨_, rfl⟩
    rw [← hnP] at hrow hPl
    by_cases hend : i = N1 ∧ k = N2
    · obtain ⟨rfl, rfl⟩ := hend
      have hDD : diffL sm L M = P := by rw [hD, List.drop_eq_nil_of_le (by rw [← HN1.out]; exact Nat.le_refl _), List.drop_eq_nil_of_le (by rw [← HN2.out]; exact Nat.le_refl _), diffL, List.append_nil]
      have HE := Lib.hid (show ChV wr u7 (diffL sm L M) by rw [hDD]; exact chv_of_row (hnP ▸ hrow))
      have HEB := Lib.hid hBw
      clear hD hrow hX hrl hBw hbl hB hDD hnP
      go_wp2_with fail
      go_returns
      exact ⟨_, rfl, HE.out, HEB.out⟩
    · obtain ⟨gk, rfl⟩ : ∃ g, gk = g + 1 := ⟨gk - 1, by omega⟩
      have HX := Lib.hid hX; have HBW := Lib.hid (below_trans hBw hbl)
      have HROW := Lib.hid hrow; have HBR := Lib.hid hBw; have HRL := Lib.hid hrl; have HB := Lib.hid hB; have HD := Lib.hid hD
      have HZ := Lib.hid (blk_new wr (.cells #[.string ⟨#[]⟩, .bool false, .bool false, .int .i64 0, .int .i64 0] CHT))
      have HNP := Lib.hid hnP
      clear hD hrow hX hrl hBw hbl hB hnP
      have hm63 : nP + 1 ≤ maxLen := by unfold maxLen; omega
      have hbytes : (nP + 1) * 40 ≤ 140737488355328 := by omega
      by_cases hi2 : i < N1
      · by_cases hk2 : k < N2
        · have hi2I : (i : Int) < (N1 : Int) := by omega
          have hi3 : ¬ (i : Int) = (N1 : Int) := by omega
          have hk2I : (k : Int) < (N2 : Int) := by omega
          have hk3 : ¬ (k : Int) = (N2 : Int) := by omega
          obtain ⟨⟨ek, ex⟩, he⟩ : ∃ e, L[i]? = some e := ⟨_, List.getElem?_eq_getElem (by rw [← HN1.out]; exact hi2)⟩
          obtain ⟨⟨fk, fx⟩, hf⟩ : ∃ e, M[k]? = some e := ⟨_, List.getElem?_eq_getElem (by rw [← HN2.out]; exact hk2)⟩
          obtain ⟨ad, rfl, hka⟩ := HSA.out.addr (by rw [ksV_length, ← HN1.out]; omega)
          obtain ⟨am, rfl, hkb⟩ := HSB.out.addr (by rw [ksV_length, ← HN2.out]; omega)
          have hV1 := (Below.refl wr.heap.size wr).alloc (Nat.le_refl _) (.cells #[.string ⟨#[]⟩, .bool false, .bool false, .int .i64 0, .int .i64 0] CHT)
          have hka := cell_below (hka i (.string ek) (by simp [ksV, he])) HB.out
          have hkb := cell_below (hkb k (.string fk) (by simp [ksV, hf])) HB.out
          have HKA := Lib.hid hka; have HKB := Lib.hid hkb
          have hka := cell_below hka hV1
          have hkb := cell_below hkb hV1
          have HGE := Lib.hid (HGA.out i _ he)
          have HGF := Lib.hid (HGB.out k _ hf)
          have HC1 := Lib.hid (blk_new wr (.cells #[.string ⟨#[]⟩, .bool false, .bool false, .int .i64 0, .int .i64 0] CHT))
          have HV1 := Lib.hid hV1
          have hgl := blk_lt HX.out.2
          have hgn0 : ¬ w.heap.size = wr.heap.size := by omega
          have hgn1 : ¬ w.heap.size + 1 = wr.heap.size := by omega
          have hgn2 : ¬ wr.heap.size = w.heap.size := by omega
          have hgn3 : ¬ wr.heap.size = w.heap.size + 1 := by omega
          dsimp only at HGE HGF
          clear hV1 hgl
          by_cases hlt : klt ek fk = true
          · have HOV := Lib.hid fun V => (show Calls Tryd.prog 90 #[.string ek, .string fk] V (Ret (fun u _ => u = .int .i64 (-1)) V) from (show ordB ek fk = -1 from by unfold ordB; rw [if_pos hlt]) ▸ HOR.out ek fk V)
            go_upto_region 7 with fail
            generalize wr.alloc (.cells #[.string ⟨#[]⟩, .bool false, .bool false, .int .i64 0, .int .i64 0] CHT) = V1 at *
            go_region_held3 (fun w' => w'.cell? (ad.add i) = some (.string ek) ∧ w'.cell? (am.add k) = some (.string fk))
              ((refine ⟨?_, ?_⟩ <;> first | (with_reducible assumption) | (with_reducible exact cell_below hka (by assumption)) | (with_reducible exact cell_below hkb (by assumption)) | (go_keep; done)))
              (first
                | (go_at_call 90; (with_reducible refine (HOV.out _).mono ?_); rintro e w7 ⟨v, rfl, rfl, hb7⟩; have hb7 := below_trans (w1 := World.drew _) (Below.refl _ _).drew hb7)
                | fail)
            have HWw7 := Lib.hid (below_trans HV1.out hb7)
            have HCw7 := Lib.hid (blk_below HC1.out hb7)
            have hka := cell_below HKA.out HWw7.out
            have hkb := cell_below HKB.out HWw7.out
            obtain ⟨⟨a0, a1, a2, a3⟩, -⟩ := box4 (HX.out.below HWw7.out).1
            obtain ⟨⟨c0, c1, c2, c3⟩, -⟩ := box4 (HX.out.below HWw7.out).2
            obtain ⟨⟨z0, z1, z2, z3, z4⟩, zf0, zf1, zf2, zf3, zf4⟩ := box5 HCw7.out
            clear hb7
            go_wp2_with (first
              | (go_at_call 27; ((with_reducible refine (HGE.out _ (below_trans HBR.out (((HWw7.out.setCell (p := ⟨wr.heap.size, 0, none⟩) (Nat.le_refl _) (.string ek)).setCell (p := ⟨wr.heap.size, 1, none⟩) (Nat.le_refl _) (.bool true))))).mono ?_); rintro e w8 ⟨v, rfl, rfl, hb⟩; have HWw8 := Lib.hid (below_trans (((HWw7.out.setCell (p := ⟨wr.heap.size, 0, none⟩) (Nat.le_refl _) (.string ek)).setCell (p := ⟨wr.heap.size, 1, none⟩) (Nat.le_refl _) (.bool true))) hb); have HCw8 := Lib.hid (blk_below (blk_put (cs := #[.string ek, .bool false, .bool false, .int .i64 0, .int .i64 0]) (blk_put (cs := #[.string ⟨#[]⟩, .bool false, .bool false, .int .i64 0, .int .i64 0]) (HCw7.out) 0 (.string ek) rfl) 1 (.bool true) rfl) hb); obtain ⟨⟨z0, z1, z2, z3, z4⟩, zf0, zf1, zf2, zf3, zf4⟩ := box5 (HCw8.out); clear hb))
              | (at_builtin; refine wpList_append_own _ rfl _ _ CSL rfl w6.heap.size CHT i0 _ 5 40 Tryd.underlying78 hi hz0 hz1 hz2 rfl (by decide) _ _ _ rfl (row_below HROW.out ((HWw8.out.setCell (p := ⟨wr.heap.size, 3, none⟩) (Nat.le_refl _) (.int .i64 ex)).alloc (by simp; exact HWw8.out.size) (.cells #[.string ek, .bool true, .bool false, .int .i64 ex, .int .i64 0] CHT))) ⟨w8.heap.size, 0, none⟩ 1 1 [.string ek, .bool true, .bool false, .int .i64 ex, .int .i64 0] rfl ?qc1 ?qc2 ?qc3 ?qc4 ?qc5 ?qc6 ?_)
              | fail)
            case qc1 => rfl
            case qc2 =>
              intro j u hj
              have hbn : ((w8.setCell ⟨wr.heap.size, 3, none⟩ (.int .i64 ex)).alloc (.cells #[.string ek, .bool true, .bool false, .int .i64 ex, .int .i64 0] CHT)).heap[w8.heap.size]? = some (.cells #[.string ek, .bool true, .bool false, .int .i64 ex, .int .i64 0] CHT (0, 0)) := by
                have h := blk_new (w8.setCell ⟨wr.heap.size, 3, none⟩ (.int .i64 ex)) (.cells #[.string ek, .bool true, .bool false, .int .i64 ex, .int .i64 0] CHT)
                simpa using h
              rw [add_head, blk_cell hbn]
              simpa using hj
            case qc3 => intro u hu; simp at hu; rcases hu with rfl | rfl | rfl | rfl | rfl <;> rfl
            case qc4 => exact hm63
            case qc5 => exact hbytes
            case qc6 => simp; exact Nat.le_succ_of_le (Nat.le_trans HB.out.size HWw8.out.size)
            intro v' w9 hown' hgrow hnil
            have HO9 := Lib.hid hown'
            have HB9 := Lib.hid (below_grown (below_trans HB.out ((HWw8.out.setCell (p := ⟨wr.heap.size, 3, none⟩) (Nat.le_refl _) (.int .i64 ex)).alloc (by simp; exact HWw8.out.size) (.cells #[.string ek, .bool true, .bool false, .int .i64 ex, .int .i64 0] CHT))) hgrow (row_below HROW.out ((HWw8.out.setCell (p := ⟨wr.heap.size, 3, none⟩) (Nat.le_refl _) (.int .i64 ex)).alloc (by simp; exact HWw8.out.size) (.cells #[.string ek, .bool true, .bool false, .int .i64 ex, .int .i64 0] CHT))) (Nat.le_refl _))
            obtain ⟨g', cap', rfl⟩ := ownsRow_succ hown'
            clear hown' hgrow hnil
            go_wp2_with fail
            go_roundg gk
            case measure => omega
            case rel =>
              show ChI _ _ _ _ _ _ _ _ _ _
              exact ⟨i + 1, k, P ++ [⟨ek, true, false, ex, 0⟩], by first | rfl | (push_cast; rfl), by first | rfl | (push_cast; rfl), by rw [← HN1.out]; omega, by rw [← HN2.out]; omega, by rw [← HN1.out, ← HN2.out]; omega, by have := HNP.out; simp; omega, app_step HD.out (step_lt sm he hf hlt), by rw [chs_snoc, List.length_append, ← HNP.out]; exact HO9.out, HB9.out⟩
          · by_cases hgt : klt fk ek = true
            · have HOV := Lib.hid fun V => (show Calls Tryd.prog 90 #[.string ek, .string fk] V (Ret (fun u _ => u = .int .i64 (1)) V) from (show ordB ek fk = 1 from by unfold ordB; rw [if_neg hlt, if_pos hgt]) ▸ HOR.out ek fk V)
              go_upto_region 7 with fail
              generalize wr.alloc (.cells #[.string ⟨#[]⟩, .bool false, .bool false, .int .i64 0, .int .i64 0] CHT) = V1 at *
              go_region_held3 (fun w' => w'.cell? (ad.add i) = some (.string ek) ∧ w'.cell? (am.add k) = some (.string fk))
                ((refine ⟨?_, ?_⟩ <;> first | (with_reducible assumption) | (with_reducible exact cell_below hka (by assumption)) | (with_reducible exact cell_below hkb (by assumption)) | (go_keep; done)))
                (first
                  | (go_at_call 90; (with_reducible refine (HOV.out _).mono ?_); rintro e w7 ⟨v, rfl, rfl, hb7⟩; have hb7 := below_trans (w1 := World.drew _) (Below.refl _ _).drew hb7)
                  | fail)
              have HWw7 := Lib.hid (below_trans HV1.out hb7)
              have HCw7 := Lib.hid (blk_below HC1.out hb7)
              have hka := cell_below HKA.out HWw7.out
              have hkb := cell_below HKB.out HWw7.out
              obtain ⟨⟨a0, a1, a2, a3⟩, -⟩ := box4 (HX.out.below HWw7.out).1
              obtain ⟨⟨c0, c1, c2, c3⟩, -⟩ := box4 (HX.out.below HWw7.out).2
              obtain ⟨⟨z0, z1, z2, z3, z4⟩, zf0, zf1, zf2, zf3, zf4⟩ := box5 HCw7.out
              clear hb7
              go_wp2_with (first
                | (go_at_call 27; ((with_reducible refine (HGF.out _ (below_trans HBR.out (((HWw7.out.setCell (p := ⟨wr.heap.size, 0, none⟩) (Nat.le_refl _) (.string fk)).setCell (p := ⟨wr.heap.size, 2, none⟩) (Nat.le_refl _) (.bool true))))).mono ?_); rintro e w8 ⟨v, rfl, rfl, hb⟩; have HWw8 := Lib.hid (below_trans (((HWw7.out.setCell (p := ⟨wr.heap.size, 0, none⟩) (Nat.le_refl _) (.string fk)).setCell (p := ⟨wr.heap.size, 2, none⟩) (Nat.le_refl _) (.bool true))) hb); have HCw8 := Lib.hid (blk_below (blk_put (cs := #[.string fk, .bool false, .bool false, .int .i64 0, .int .i64 0]) (blk_put (cs := #[.string ⟨#[]⟩, .bool false, .bool false, .int .i64 0, .int .i64 0]) (HCw7.out) 0 (.string fk) rfl) 2 (.bool true) rfl) hb); obtain ⟨⟨z0, z1, z2, z3, z4⟩, zf0, zf1, zf2, zf3, zf4⟩ := box5 (HCw8.out); clear hb))
                | (at_builtin; refine wpList_append_own _ rfl _ _ CSL rfl w6.heap.size CHT i0 _ 5 40 Tryd.underlying78 hi hz0 hz1 hz2 rfl (by decide) _ _ _ rfl (row_below HROW.out ((HWw8.out.setCell (p := ⟨wr.heap.size, 4, none⟩) (Nat.le_refl _) (.int .i64 fx)).alloc (by simp; exact HWw8.out.size) (.cells #[.string fk, .bool false, .bool true, .int .i64 0, .int .i64 fx] CHT))) ⟨w8.heap.size, 0, none⟩ 1 1 [.string fk, .bool false, .bool true, .int .i64 0, .int .i64 fx] rfl ?qc1 ?qc2 ?qc3 ?qc4 ?qc5 ?qc6 ?_)
                | fail)
              case qc1 => rfl
              case qc2 =>
                intro j u hj
                have hbn : ((w8.setCell ⟨wr.heap.size, 4, none⟩ (.int .i64 fx)).alloc (.cells #[.string fk, .bool false, .bool true, .int .i64 0, .int .i64 fx] CHT)).heap[w8.heap.size]? = some (.cells #[.string fk, .bool false, .bool true, .int .i64 0, .int .i64 fx] CHT (0, 0)) := by
                  have h := blk_new (w8.setCell ⟨wr.heap.size, 4, none⟩ (.int .i64 fx)) (.cells #[.string fk, .bool false, .bool true, .int .i64 0, .int .i64 fx] CHT)
                  simpa using h
                rw [add_head, blk_cell hbn]
                simpa using hj
              case qc3 => intro u hu; simp at hu; rcases hu with rfl | rfl | rfl | rfl | rfl <;> rfl
              case qc4 => exact hm63
              case qc5 => exact hbytes
              case qc6 => simp; exact Nat.le_succ_of_le (Nat.le_trans HB.out.size HWw8.out.size)
              intro v' w9 hown' hgrow hnil
              have HO9 := Lib.hid hown'
              have HB9 := Lib.hid (below_grown (below_trans HB.out ((HWw8.out.setCell (p := ⟨wr.heap.size, 4, none⟩) (Nat.le_refl _) (.int .i64 fx)).alloc (by simp; exact HWw8.out.size) (.cells #[.string fk, .bool false, .bool true, .int .i64 0, .int .i64 fx] CHT))) hgrow (row_below HROW.out ((HWw8.out.setCell (p := ⟨wr.heap.size, 4, none⟩) (Nat.le_refl _) (.int .i64 fx)).alloc (by simp; exact HWw8.out.size) (.cells #[.string fk, .bool false, .bool true, .int .i64 0, .int .i64 fx] CHT))) (Nat.le_refl _))
              obtain ⟨g', cap', rfl⟩ := ownsRow_succ hown'
              clear hown' hgrow hnil
              go_wp2_with fail
              go_roundg gk
              case measure => omega
              case rel =>
                show ChI _ _ _ _ _ _ _ _ _ _
                exact ⟨i, k + 1, P ++ [⟨fk, false, true, 0, fx⟩], by first | rfl | (push_cast; rfl), by first | rfl | (push_cast; rfl), by rw [← HN1.out]; omega, by rw [← HN2.out]; omega, by rw [← HN1.out, ← HN2.out]; omega, by have := HNP.out; simp; omega, app_step HD.out (step_gt sm he hf hlt hgt), by rw [chs_snoc, List.length_append, ← HNP.out]; exact HO9.out, HB9.out⟩
            · by_cases hsv : sm ex fx = true
              · have HSV := Lib.hid fun V (hV : Below w.heap.size w V) => (show Calls Tryd.prog 69 #[.int .i64 ex, .int .i64 fx] V (Ret (fun u _ => u = .bool true) V) from hsv ▸ HSM.out ex fx V hV)
                have HOV := Lib.hid fun V => (show Calls Tryd.prog 90 #[.string ek, .string fk] V (Ret (fun u _ => u = .int .i64 (0)) V) from (show ordB ek fk = 0 from by unfold ordB; rw [if_neg hlt, if_neg hgt]) ▸ HOR.out ek fk V)
                go_upto_region 7 with fail
                generalize wr.alloc (.cells #[.string ⟨#[]⟩, .bool false, .bool false, .int .i64 0, .int .i64 0] CHT) = V1 at *
                go_region_held3 (fun w' => w'.cell? (ad.add i) = some (.string ek) ∧ w'.cell? (am.add k) = some (.string fk))
                  ((refine ⟨?_, ?_⟩ <;> first | (with_reducible assumption) | (with_reducible exact cell_below hka (by assumption)) | (with_reducible exact cell_below hkb (by assumption)) | (go_keep; done)))
                  (first
                    | (go_at_call 90; (with_reducible refine (HOV.out _).mono ?_); rintro e w7 ⟨v, rfl, rfl, hb7⟩; have hb7 := below_trans (w1 := World.drew _) (Below.refl _ _).drew hb7)
                    | fail)
                have HWw7 := Lib.hid (below_trans HV1.out hb7)
                have HCw7 := Lib.hid (blk_below HC1.out hb7)
                have hka := cell_below HKA.out HWw7.out
                have hkb := cell_below HKB.out HWw7.out
                obtain ⟨⟨a0, a1, a2, a3⟩, -⟩ := box4 (HX.out.below HWw7.out).1
                obtain ⟨⟨c0, c1, c2, c3⟩, -⟩ := box4 (HX.out.below HWw7.out).2
                obtain ⟨⟨z0, z1, z2, z3, z4⟩, zf0, zf1, zf2, zf3, zf4⟩ := box5 HCw7.out
                clear hb7
                go_wp2_with (first
                  | (go_at_call 27; ((with_reducible refine (HGE.out _ (below_trans HBR.out (((HWw7.out.setCell (p := ⟨wr.heap.size, 0, none⟩) (Nat.le_refl _) (.string ek)).setCell (p := ⟨wr.heap.size, 1, none⟩) (Nat.le_refl _) (.bool true))))).mono ?_); rintro e w8 ⟨v, rfl, rfl, hb⟩; have HWw8 := Lib.hid (below_trans (((HWw7.out.setCell (p := ⟨wr.heap.size, 0, none⟩) (Nat.le_refl _) (.string ek)).setCell (p := ⟨wr.heap.size, 1, none⟩) (Nat.le_refl _) (.bool true))) hb); have HCw8 := Lib.hid (blk_below (blk_put (cs := #[.string ek, .bool false, .bool false, .int .i64 0, .int .i64 0]) (blk_put (cs := #[.string ⟨#[]⟩, .bool false, .bool false, .int .i64 0, .int .i64 0]) (HCw7.out) 0 (.string ek) rfl) 1 (.bool true) rfl) hb); obtain ⟨⟨z0, z1, z2, z3, z4⟩, zf0, zf1, zf2, zf3, zf4⟩ := box5 (HCw8.out); obtain ⟨⟨a0, a1, a2, a3⟩, -⟩ := box4 (HX.out.below HWw8.out).1; obtain ⟨⟨c0, c1, c2, c3⟩, -⟩ := box4 (HX.out.below HWw8.out).2; have hkb := cell_below HKB.out (HWw8.out.setCell (p := ⟨wr.heap.size, 3, none⟩) (Nat.le_refl _) (.int .i64 ex)); clear hb))
                  | (go_at_call 27; ((with_reducible refine (HGF.out _ (below_trans HBR.out ((((HWw8.out.setCell (p := ⟨wr.heap.size, 3, none⟩) (Nat.le_refl _) (.int .i64 ex)).setCell (p := ⟨wr.heap.size, 0, none⟩) (Nat.le_refl _) (.string fk)).setCell (p := ⟨wr.heap.size, 2, none⟩) (Nat.le_refl _) (.bool true))))).mono ?_); rintro e w9 ⟨v, rfl, rfl, hb⟩; have HWw9 := Lib.hid (below_trans ((((HWw8.out.setCell (p := ⟨wr.heap.size, 3, none⟩) (Nat.le_refl _) (.int .i64 ex)).setCell (p := ⟨wr.heap.size, 0, none⟩) (Nat.le_refl _) (.string fk)).setCell (p := ⟨wr.heap.size, 2, none⟩) (Nat.le_refl _) (.bool true))) hb); have HCw9 := Lib.hid (blk_below (blk_put (cs := #[.string fk, .bool true, .bool false, .int .i64 ex, .int .i64 0]) (blk_put (cs := #[.string ek, .bool true, .bool false, .int .i64 ex, .int .i64 0]) (blk_put (cs := #[.string ek, .bool true, .bool false, .int .i64 0, .int .i64 0]) (HCw8.out) 3 (.int .i64 ex) rfl) 0 (.string fk) rfl) 2 (.bool true) rfl) hb); obtain ⟨⟨z0, z1, z2, z3, z4⟩, zf0, zf1, zf2, zf3, zf4⟩ := box5 (HCw9.out); clear hb))
                  | (go_at_call 69; ((with_reducible refine (HSV.out _ (below_trans HBR.out ((HWw9.out.setCell (p := ⟨wr.heap.size, 4, none⟩) (Nat.le_refl _) (.int .i64 fx))))).mono ?_); rintro e w10 ⟨v, rfl, rfl, hb⟩; have HWw10 := Lib.hid (below_trans ((HWw9.out.setCell (p := ⟨wr.heap.size, 4, none⟩) (Nat.le_refl _) (.int .i64 fx))) hb); have HCw10 := Lib.hid (blk_below (blk_put (cs := #[.string fk, .bool true, .bool true, .int .i64 ex, .int .i64 0]) (HCw9.out) 4 (.int .i64 fx) rfl) hb); obtain ⟨⟨z0, z1, z2, z3, z4⟩, zf0, zf1, zf2, zf3, zf4⟩ := box5 (HCw10.out); clear hb))
                  | fail)
                have HB9 := Lib.hid (below_trans HB.out HWw10.out)
                have HO9 := Lib.hid (row_below HROW.out HWw10.out)
                go_roundg gk
                case measure => omega
                case rel =>
                  show ChI _ _ _ _ _ _ _ _ _ _
                  exact ⟨i + 1, k + 1, P, by first | rfl | (push_cast; rfl), by first | rfl | (push_cast; rfl), by rw [← HN1.out]; omega, by rw [← HN2.out]; omega, by rw [← HN1.out, ← HN2.out]; omega, by have := HNP.out; omega, by rw [HD.out, step_same sm he hf hlt hgt hsv], by rw [← HNP.out]; exact HO9.out, HB9.out⟩
              · have HSV := Lib.hid fun V (hV : Below w.heap.size w V) => (show Calls Tryd.prog 69 #[.int .i64 ex, .int .i64 fx] V (Ret (fun u _ => u = .bool false) V) from (Bool.eq_false_iff.2 hsv) ▸ HSM.out ex fx V hV)
                have HOV := Lib.hid fun V => (show Calls Tryd.prog 90 #[.string ek, .string fk] V (Ret (fun u _ => u = .int .i64 (0)) V) from (show ordB ek fk = 0 from by unfold ordB; rw [if_neg hlt, if_neg hgt]) ▸ HOR.out ek fk V)
                go_upto_region 7 with fail
                generalize wr.alloc (.cells #[.string ⟨#[]⟩, .bool false, .bool false, .int .i64 0, .int .i64 0] CHT) = V1 at *
                go_region_held3 (fun w' => w'.cell? (ad.add i) = some (.string ek) ∧ w'.cell? (am.add k) = some (.string fk))
                  ((refine ⟨?_, ?_⟩ <;> first | (with_reducible assumption) | (with_reducible exact cell_below hka (by assumption)) | (with_reducible exact cell_below hkb (by assumption)) | (go_keep; done)))
                  (first
                    | (go_at_call 90; (with_reducible refine (HOV.out _).mono ?_); rintro e w7 ⟨v, rfl, rfl, hb7⟩; have hb7 := below_trans (w1 := World.drew _) (Below.refl _ _).drew hb7)
                    | fail)
                have HWw7 := Lib.hid (below_trans HV1.out hb7)
                have HCw7 := Lib.hid (blk_below HC1.out hb7)
                have hka := cell_below HKA.out HWw7.out
                have hkb := cell_below HKB.out HWw7.out
                obtain ⟨⟨a0, a1, a2, a3⟩, -⟩ := box4 (HX.out.below HWw7.out).1
                obtain ⟨⟨c0, c1, c2, c3⟩, -⟩ := box4 (HX.out.below HWw7.out).2
                obtain ⟨⟨z0, z1, z2, z3, z4⟩, zf0, zf1, zf2, zf3, zf4⟩ := box5 HCw7.out
                clear hb7
                go_wp2_with (first
                  | (go_at_call 27; ((with_reducible refine (HGE.out _ (below_trans HBR.out (((HWw7.out.setCell (p := ⟨wr.heap.size, 0, none⟩) (Nat.le_refl _) (.string ek)).setCell (p := ⟨wr.heap.size, 1, none⟩) (Nat.le_refl _) (.bool true))))).mono ?_); rintro e w8 ⟨v, rfl, rfl, hb⟩; have HWw8 := Lib.hid (below_trans (((HWw7.out.setCell (p := ⟨wr.heap.size, 0, none⟩) (Nat.le_refl _) (.string ek)).setCell (p := ⟨wr.heap.size, 1, none⟩) (Nat.le_refl _) (.bool true))) hb); have HCw8 := Lib.hid (blk_below (blk_put (cs := #[.string ek, .bool false, .bool false, .int .i64 0, .int .i64 0]) (blk_put (cs := #[.string ⟨#[]⟩, .bool false, .bool false, .int .i64 0, .int .i64 0]) (HCw7.out) 0 (.string ek) rfl) 1 (.bool true) rfl) hb); obtain ⟨⟨z0, z1, z2, z3, z4⟩, zf0, zf1, zf2, zf3, zf4⟩ := box5 (HCw8.out); obtain ⟨⟨a0, a1, a2, a3⟩, -⟩ := box4 (HX.out.below HWw8.out).1; obtain ⟨⟨c0, c1, c2, c3⟩, -⟩ := box4 (HX.out.below HWw8.out).2; have hkb := cell_below HKB.out (HWw8.out.setCell (p := ⟨wr.heap.size, 3, none⟩) (Nat.le_refl _) (.int .i64 ex)); clear hb))
                  | (go_at_call 27; ((with_reducible refine (HGF.out _ (below_trans HBR.out ((((HWw8.out.setCell (p := ⟨wr.heap.size, 3, none⟩) (Nat.le_refl _) (.int .i64 ex)).setCell (p := ⟨wr.heap.size, 0, none⟩) (Nat.le_refl _) (.string fk)).setCell (p := ⟨wr.heap.size, 2, none⟩) (Nat.le_refl _) (.bool true))))).mono ?_); rintro e w9 ⟨v, rfl, rfl, hb⟩; have HWw9 := Lib.hid (below_trans ((((HWw8.out.setCell (p := ⟨wr.heap.size, 3, none⟩) (Nat.le_refl _) (.int .i64 ex)).setCell (p := ⟨wr.heap.size, 0, none⟩) (Nat.le_refl _) (.string fk)).setCell (p := ⟨wr.heap.size, 2, none⟩) (Nat.le_refl _) (.bool true))) hb); have HCw9 := Lib.hid (blk_below (blk_put (cs := #[.string fk, .bool true, .bool false, .int .i64 ex, .int .i64 0]) (blk_put (cs := #[.string ek, .bool true, .bool false, .int .i64 ex, .int .i64 0]) (blk_put (cs := #[.string ek, .bool true, .bool false, .int .i64 0, .int .i64 0]) (HCw8.out) 3 (.int .i64 ex) rfl) 0 (.string fk) rfl) 2 (.bool true) rfl) hb); obtain ⟨⟨z0, z1, z2, z3, z4⟩, zf0, zf1, zf2, zf3, zf4⟩ := box5 (HCw9.out); clear hb))
                  | (go_at_call 69; ((with_reducible refine (HSV.out _ (below_trans HBR.out ((HWw9.out.setCell (p := ⟨wr.heap.size, 4, none⟩) (Nat.le_refl _) (.int .i64 fx))))).mono ?_); rintro e w10 ⟨v, rfl, rfl, hb⟩; have HWw10 := Lib.hid (below_trans ((HWw9.out.setCell (p := ⟨wr.heap.size, 4, none⟩) (Nat.le_refl _) (.int .i64 fx))) hb); have HCw10 := Lib.hid (blk_below (blk_put (cs := #[.string fk, .bool true, .bool true, .int .i64 ex, .int .i64 0]) (HCw9.out) 4 (.int .i64 fx) rfl) hb); obtain ⟨⟨z0, z1, z2, z3, z4⟩, zf0, zf1, zf2, zf3, zf4⟩ := box5 (HCw10.out); clear hb))
                  | (at_builtin; refine wpList_append_own _ rfl _ _ CSL rfl w6.heap.size CHT i0 _ 5 40 Tryd.underlying78 hi hz0 hz1 hz2 rfl (by decide) _ _ _ rfl (row_below HROW.out (HWw10.out.alloc (HWw10.out.size) (.cells #[.string fk, .bool true, .bool true, .int .i64 ex, .int .i64 fx] CHT))) ⟨w10.heap.size, 0, none⟩ 1 1 [.string fk, .bool true, .bool true, .int .i64 ex, .int .i64 fx] rfl ?qc1 ?qc2 ?qc3 ?qc4 ?qc5 ?qc6 ?_)
                  | fail)
                case qc1 => rfl
                case qc2 =>
                  intro j u hj
                  have hbn : (w10.alloc (.cells #[.string fk, .bool true, .bool true, .int .i64 ex, .int .i64 fx] CHT)).heap[w10.heap.size]? = some (.cells #[.string fk, .bool true, .bool true, .int .i64 ex, .int .i64 fx] CHT (0, 0)) := by
                    have h := blk_new w10 (.cells #[.string fk, .bool true, .bool true, .int .i64 ex, .int .i64 fx] CHT)
                    exact h
                  rw [add_head, blk_cell hbn]
                  simpa using hj
                case qc3 => intro u hu; simp at hu; rcases hu with rfl | rfl | rfl | rfl | rfl <;> rfl
                case qc4 => exact hm63
                case qc5 => exact hbytes
                case qc6 => simp; exact Nat.le_succ_of_le (Nat.le_trans HB.out.size HWw10.out.size)
                intro v' w9 hown' hgrow hnil
                have HO9 := Lib.hid hown'
                have HB9 := Lib.hid (below_grown (below_trans HB.out (HWw10.out.alloc (HWw10.out.size) (.cells #[.string fk, .bool true, .bool true, .int .i64 ex, .int .i64 fx] CHT))) hgrow (row_below HROW.out (HWw10.out.alloc (HWw10.out.size) (.cells #[.string fk, .bool true, .bool true, .int .i64 ex, .int .i64 fx] CHT))) (Nat.le_refl _))
                obtain ⟨g', cap', rfl⟩ := ownsRow_succ hown'
                clear hown' hgrow hnil
                go_wp2_with fail
                go_roundg gk
                case measure => omega
                case rel =>
                  show ChI _ _ _ _ _ _ _ _ _ _
                  exact ⟨i + 1, k + 1, P ++ [⟨fk, true, true, ex, fx⟩], by first | rfl | (push_cast; rfl), by first | rfl | (push_cast; rfl), by rw [← HN1.out]; omega, by rw [← HN2.out]; omega, by rw [← HN1.out, ← HN2.out]; omega, by have := HNP.out; simp; omega, app_step HD.out (step_diff sm he hf hlt hgt hsv), by rw [chs_snoc, List.length_append, ← HNP.out]; exact HO9.out, HB9.out⟩
        · obtain rfl : k = N2 := by omega
          have hi2I : (i : Int) < (N1 : Int) := by omega
          have hi3 : ¬ (i : Int) = (N1 : Int) := by omega
          obtain ⟨⟨ek, ex⟩, he⟩ : ∃ e, L[i]? = some e := ⟨_, List.getElem?_eq_getElem (by rw [← HN1.out]; exact hi2)⟩
          obtain ⟨ad, rfl, hkc⟩ := HSA.out.addr (by rw [ksV_length, ← HN1.out]; omega)
          have hkc := cell_below (cell_below (hkc i (.string ek) (by simp [ksV, he])) HB.out) ((Below.refl wr.heap.size wr).alloc (Nat.le_refl _) (.cells #[.string ⟨#[]⟩, .bool false, .bool false, .int .i64 0, .int .i64 0] CHT))
          have HGE := Lib.hid (HGA.out i _ he)
          have hcc := fun o => (box4 (HX.out.below ((Below.refl wr.heap.size wr).alloc (Nat.le_refl _) o)).1).1
          have c0 := fun o => (hcc o).1
          have c1 := fun o => (hcc o).2.1
          have c2 := fun o => (hcc o).2.2.1
          have c3 := fun o => (hcc o).2.2.2
          clear hcc
          dsimp only at HGE
          go_wp2_with (first
            | (go_at_call 27; ((with_reducible refine (HGE.out _ (below_trans HBR.out ((Below.refl wr.heap.size wr).alloc (Nat.le_refl _) (.cells #[.string ek, .bool true, .bool false, .int .i64 0, .int .i64 0] CHT)))).mono ?_); rintro e w8 ⟨v, rfl, rfl, hb⟩; have HWw8 := Lib.hid (below_trans ((Below.refl wr.heap.size wr).alloc (Nat.le_refl _) (.cells #[.string ek, .bool true, .bool false, .int .i64 0, .int .i64 0] CHT)) hb); obtain ⟨⟨z0, z1, z2, z3, z4⟩, zf0, zf1, zf2, zf3, zf4⟩ := box5 (blk_below (blk_new wr (.cells #[.string ek, .bool true, .bool false, .int .i64 0, .int .i64 0] CHT)) hb); clear hb))
            | (at_builtin; refine wpList_append_own _ rfl _ _ CSL rfl w6.heap.size CHT i0 _ 5 40 Tryd.underlying78 hi hz0 hz1 hz2 rfl (by decide) _ _ _ rfl (row_below HROW.out ((HWw8.out.setCell (p := ⟨wr.heap.size, 3, none⟩) (Nat.le_refl _) (.int .i64 ex)).alloc (by simp; exact HWw8.out.size) (.cells #[.string ek, .bool true, .bool false, .int .i64 ex, .int .i64 0] CHT))) ⟨w8.heap.size, 0, none⟩ 1 1 [.string ek, .bool true, .bool false, .int .i64 ex, .int .i64 0] rfl ?qc1 ?qc2 ?qc3 ?qc4 ?qc5 ?qc6 ?_)
            | fail)
          case qc1 => rfl
          case qc2 =>
            intro j u hj
            have hbn : ((w8.setCell ⟨wr.heap.size, 3, none⟩ (.int .i64 ex)).alloc (.cells #[.string ek, .bool true, .bool false, .int .i64 ex, .int .i64 0] CHT)).heap[w8.heap.size]? = some (.cells #[.string ek, .bool true, .bool false, .int .i64 ex, .int .i64 0] CHT (0, 0)) := by
              have h := blk_new (w8.setCell ⟨wr.heap.size, 3, none⟩ (.int .i64 ex)) (.cells #[.string ek, .bool true, .bool false, .int .i64 ex, .int .i64 0] CHT)
              simpa using h
            rw [add_head, blk_cell hbn]
            simpa using hj
          case qc3 => intro u hu; simp at hu; rcases hu with rfl | rfl | rfl | rfl | rfl <;> rfl
          case qc4 => exact hm63
          case qc5 => exact hbytes
          case qc6 => simp; exact Nat.le_succ_of_le (Nat.le_trans HB.out.size HWw8.out.size)
          intro v' w9 hown' hgrow hnil
          have HO9 := Lib.hid hown'
          have HB9 := Lib.hid (below_grown (below_trans HB.out ((HWw8.out.setCell (p := ⟨wr.heap.size, 3, none⟩) (Nat.le_refl _) (.int .i64 ex)).alloc (by simp; exact HWw8.out.size) (.cells #[.string ek, .bool true, .bool false, .int .i64 ex, .int .i64 0] CHT))) hgrow (row_below HROW.out ((HWw8.out.setCell (p := ⟨wr.heap.size, 3, none⟩) (Nat.le_refl _) (.int .i64 ex)).alloc (by simp; exact HWw8.out.size) (.cells #[.string ek, .bool true, .bool false, .int .i64 ex, .int .i64 0] CHT))) (Nat.le_refl _))
          obtain ⟨g', cap', rfl⟩ := ownsRow_succ hown'
          clear hown' hgrow hnil
          go_wp2_with fail
          go_roundg gk
          case measure => omega
          case rel =>
            show ChI _ _ _ _ _ _ _ _ _ _
            exact ⟨i + 1, k, P ++ [⟨ek, true, false, ex, 0⟩], by first | rfl | (push_cast; rfl), by first | rfl | (push_cast; rfl), by rw [← HN1.out]; omega, by rw [← HN2.out]; omega, by rw [← HN1.out, ← HN2.out]; omega, by have := HNP.out; simp; omega, app_step HD.out (step_a sm (by rw [← HN2.out]; exact Nat.le_refl _) he), by rw [chs_snoc, List.length_append, ← HNP.out]; exact HO9.out, HB9.out⟩
      · obtain rfl : i = N1 := by omega
        have hk2 : k < N2 := by omega
        have hk2I : (k : Int) < (N2 : Int) := by omega
        have hk3 : ¬ (k : Int) = (N2 : Int) := by omega
        obtain ⟨⟨ek, ex⟩, he⟩ : ∃ e, M[k]? = some e := ⟨_, List.getElem?_eq_getElem (by rw [← HN2.out]; exact hk2)⟩
        obtain ⟨ad, rfl, hkc⟩ := HSB.out.addr (by rw [ksV_length, ← HN2.out]; omega)
        have hkc := cell_below (cell_below (hkc k (.string ek) (by simp [ksV, he])) HB.out) ((Below.refl wr.heap.size wr).alloc (Nat.le_refl _) (.cells #[.string ⟨#[]⟩, .bool false, .bool false, .int .i64 0, .int .i64 0] CHT))
        have HGE := Lib.hid (HGB.out k _ he)
        have hcc := fun o => (box4 (HX.out.below ((Below.refl wr.heap.size wr).alloc (Nat.le_refl _) o)).2).1
        have c0 := fun o => (hcc o).1
        have c1 := fun o => (hcc o).2.1
        have c2 := fun o => (hcc o).2.2.1
        have c3 := fun o => (hcc o).2.2.2
        clear hcc
        dsimp only at HGE
        go_wp2_with (first
          | (go_at_call 27; ((with_reducible refine (HGE.out _ (below_trans HBR.out ((Below.refl wr.heap.size wr).alloc (Nat.le_refl _) (.cells #[.string ek, .bool false, .bool true, .int .i64 0, .int .i64 0] CHT)))).mono ?_); rintro e w8 ⟨v, rfl, rfl, hb⟩; have HWw8 := Lib.hid (below_trans ((Below.refl wr.heap.size wr).alloc (Nat.le_refl _) (.cells #[.string ek, .bool false, .bool true, .int .i64 0, .int .i64 0] CHT)) hb); obtain ⟨⟨z0, z1, z2, z3, z4⟩, zf0, zf1, zf2, zf3, zf4⟩ := box5 (blk_below (blk_new wr (.cells #[.string ek, .bool false, .bool true, .int .i64 0, .int .i64 0] CHT)) hb); clear hb))
          | (at_builtin; refine wpList_append_own _ rfl _ _ CSL rfl w6.heap.size CHT i0 _ 5 40 Tryd.underlying78 hi hz0 hz1 hz2 rfl (by decide) _ _ _ rfl (row_below HROW.out ((HWw8.out.setCell (p := ⟨wr.heap.size, 4, none⟩) (Nat.le_refl _) (.int .i64 ex)).alloc (by simp; exact HWw8.out.size) (.cells #[.string ek, .bool false, .bool true, .int .i64 0, .int .i64 ex] CHT))) ⟨w8.heap.size, 0, none⟩ 1 1 [.string ek, .bool false, .bool true, .int .i64 0, .int .i64 ex] rfl ?qc1 ?qc2 ?qc3 ?qc4 ?qc5 ?qc6 ?_)
          | fail)
        case qc1 => rfl
        case qc2 =>
          intro j u hj
          have hbn : ((w8.setCell ⟨wr.heap.size, 4, none⟩ (.int .i64 ex)).alloc (.cells #[.string ek, .bool false, .bool true, .int .i64 0, .int .i64 ex] CHT)).heap[w8.heap.size]? = some (.cells #[.string ek, .bool false, .bool true, .int .i64 0, .int .i64 ex] CHT (0, 0)) := by
            have h := blk_new (w8.setCell ⟨wr.heap.size, 4, none⟩ (.int .i64 ex)) (.cells #[.string ek, .bool false, .bool true, .int .i64 0, .int .i64 ex] CHT)
            simpa using h
          rw [add_head, blk_cell hbn]
          simpa using hj
        case qc3 => intro u hu; simp at hu; rcases hu with rfl | rfl | rfl | rfl | rfl <;> rfl
        case qc4 => exact hm63
        case qc5 => exact hbytes
        case qc6 => simp; exact Nat.le_succ_of_le (Nat.le_trans HB.out.size HWw8.out.size)
        intro v' w9 hown' hgrow hnil
        have HO9 := Lib.hid hown'
        have HB9 := Lib.hid (below_grown (below_trans HB.out ((HWw8.out.setCell (p := ⟨wr.heap.size, 4, none⟩) (Nat.le_refl _) (.int .i64 ex)).alloc (by simp; exact HWw8.out.size) (.cells #[.string ek, .bool false, .bool true, .int .i64 0, .int .i64 ex] CHT))) hgrow (row_below HROW.out ((HWw8.out.setCell (p := ⟨wr.heap.size, 4, none⟩) (Nat.le_refl _) (.int .i64 ex)).alloc (by simp; exact HWw8.out.size) (.cells #[.string ek, .bool false, .bool true, .int .i64 0, .int .i64 ex] CHT))) (Nat.le_refl _))
        obtain ⟨g', cap', rfl⟩ := ownsRow_succ hown'
        clear hown' hgrow hnil
        go_wp2_with fail
        go_roundg gk
        case measure => omega
        case rel =>
          show ChI _ _ _ _ _ _ _ _ _ _
          exact ⟨i, k + 1, P ++ [⟨ek, false, true, 0, ex⟩], by first | rfl | (push_cast; rfl), by first | rfl | (push_cast; rfl), by rw [← HN1.out]; omega, by rw [← HN2.out]; omega, by rw [← HN1.out, ← HN2.out]; omega, by have := HNP.out; simp; omega, app_step HD.out (step_b sm (by rw [← HN1.out]; exact Nat.le_refl _) he), by rw [chs_snoc, List.length_append, ← HNP.out]; exact HO9.out, HB9.out⟩
end Go.Proofs.YtnegblckbomgdaaDoor.Ht
