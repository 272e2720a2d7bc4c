/- No rope is deeper than the document lets it be, nor less deep: the law's walk. -/
import Derived.Test.YtcjpdjecgeenfaaRoThr
set_option linter.unusedVariables false
set_option linter.unusedSimpArgs false
namespace Go.Proofs.Ytcjpdjecgeenfaa.Ro
open Go Go.RowKit Go.Proofs.Ytcjpdjecgeenfaa.Mem Go.Proofs.YtcjpdjecgeenfaaW.PrintWords Go.Proofs.Ytcjpdjecgeenfaa.PRopeDoes

/-- what a law answers -/
def Tru (w : World) (e : Ending) (w' : World) : Prop := e = .returned (.bool true) ∧ Below w.heap.size w w'

theorem flat_l0 (n d : Nat) (hd : d ≤ 6) (h2 : n ≤ 16 ^ (d + 1)) (h3 : d = 0 ∨ 8 ^ d * 2 ≤ n) (h1 : 1 ≤ n) : ∀ (i j : Nat), j + i = d → ∀ k, i + 1 ≤ k →
    placketref08_Flat.l0 k (n : Int) ((d : Int) + 1) ((8 ^ j : Nat) : Int) ((16 ^ (j + 1) : Nat) : Int) ((d : Int) + 1) ((j : Int) + 1) = some true := by
  intro i
  induction i with
  | zero =>
    intro j hj k hk
    obtain rfl : j = d := by omega
    obtain ⟨k, rfl⟩ : ∃ k', k = k' + 1 := ⟨k - 1, by omega⟩
    have hp : 8 ^ j ≤ 8 ^ 6 := Nat.pow_le_pow_right (by decide) hd
    have hp0 : 0 < 8 ^ j := Nat.pow_pos (by decide)
    rw [placketref08_Flat.l0, if_neg (by omega)]
    by_cases h0 : j = 0
    · subst h0
      rw [if_neg (by omega), if_pos (by omega), if_pos (by simp; omega)]
      simp
      simp at h2
      omega
    · have h4 : 8 ^ j * 2 ≤ n := h3.resolve_left h0
      generalize 8 ^ j = P at *
      generalize 16 ^ (j + 1) = Q at *
      have e1 : wrap64 ((P : Int) * 2) = (P : Int) * 2 := wrap_mid _ (by omega) (by omega)
      rw [if_pos (by omega), if_pos (by omega), e1, if_pos (by omega)]
      simp
      omega
  | succ i ih =>
    intro j hj k hk
    obtain ⟨k, rfl⟩ : ∃ k', k = k' + 1 := ⟨k - 1, by omega⟩
    have h4 : 8 ^ d * 2 ≤ n := h3.resolve_left (by omega)
    have hp1 : 8 ^ (j + 1) ≤ 8 ^ d := Nat.pow_le_pow_right (by decide) (by omega)
    have hp : 8 ^ (j + 1) ≤ 8 ^ 6 := Nat.pow_le_pow_right (by decide) (by omega)
    have hq : 16 ^ (j + 1 + 1) ≤ 16 ^ 7 := Nat.pow_le_pow_right (by decide) (by omega)
    have hr := ih (j + 1) (by omega) k (by omega)
    rw [Nat.pow_succ 8 j] at hp hp1 hr
    rw [Nat.pow_succ 16 (j + 1)] at hq hr
    have e3 : wrap64 ((j : Int) + 1 + 1) = ((j + 1 : Nat) : Int) + 1 := by rw [wrap_mid _ (by omega) (by omega)]; push_cast; rfl
    generalize 8 ^ j = P at *
    generalize 16 ^ (j + 1) = Q at *
    generalize 8 ^ d = R at *
    have e1 : wrap64 ((P : Int) * 8) = ((P * 8 : Nat) : Int) := by rw [wrap_mid _ (by omega) (by omega)]; push_cast; rfl
    have e2 : wrap64 ((Q : Int) * 16) = ((Q * 16 : Nat) : Int) := by rw [wrap_mid _ (by omega) (by omega)]; push_cast; rfl
    rw [placketref08_Flat.l0, if_pos (by omega), if_pos (by omega), e1, e2, e3, if_neg (by omega)]
    exact hr

theorem flat_f (n D : Nat) (h : DepOk n D) : ∃ k, placketref08_Flat.f k (n : Int) (D : Int) = some true := by
  rcases h with ⟨rfl, rfl⟩ | ⟨d, rfl, hd, h1, h2, h3⟩
  · exact ⟨1, rfl⟩
  · refine ⟨d + 3, ?_⟩
    have hr := flat_l0 n d hd h2 h3 h1 d 0 (by omega) (d + 1) (by omega)
    unfold placketref08_Flat.f
    rw [if_neg (by omega), placketref08_Flat.j0, if_neg (by simp; omega), placketref08_Flat.l0, if_pos (by omega), if_neg (by omega), if_neg (by omega)]
    have e2 : wrap64 ((1 : Int) * 16) = ((16 ^ (0 + 1) : Nat) : Int) := by decide +kernel
    have e3 : wrap64 ((0 : Int) + 1) = ((0 : Nat) : Int) + 1 := by decide +kernel
    rw [e2, e3]
    exact hr

/-- the document's bounds hold -/
theorem rflat_c (n D : Nat) (h : DepOk n D) (w : World) :
    Calls Try.prog 16 #[.int .i64 (n : Int), .int .i64 (D : Int)] w (Ret (fun v w' => v = .bool true) w) := by
  obtain ⟨k, hf⟩ := flat_f n D h
  refine (placketref08_Flat.calls k _ _ true w hf).mono ?_
  rintro e w' ⟨rfl, hD⟩
  exact ⟨_, rfl, rfl, hD.below⟩

def SeqI (w : World) (T k : Nat) (v : Value) (wr : World) : Prop := ∃ i : Nat, v = .int .i64 (i : Int) ∧ i + k = T ∧ Below w.heap.size w wr

set_option maxHeartbeats 4000000 in
theorem flat_out (v : Value) (W : World)
    (hf : ∀ V, Below W.heap.size W V → Calls Try.prog 14 #[v] V (Ret (fun u _ => u = .bool false) V)) :
    Calls Try.prog 4 #[v] W (Tru W) := by
  have HF := Lib.hid hf; clear hf
  go_enter Try.func4, Try.ntmps4
  go_wp2_with (first
    | (go_at_call 14; ((with_reducible refine (HF.out _ (by go_grown)).mono ?_); rintro e w1 ⟨v, rfl, rfl, hb1⟩; have hB1 : Below W.heap.size W w1 := below_trans (by go_grown) hb1; clear hb1))
    | (go_at_call 8; ((with_reducible refine (live_c _).mono ?_); rintro e w2 ⟨v, rfl, rfl, hb2⟩; have hB2 : Below W.heap.size W w2 := below_trans (by go_grown) hb2; clear hb2)))
  go_returns
  exact ⟨rfl, by go_grown⟩

set_option maxRecDepth 100000 in
set_option maxHeartbeats 8000000 in
theorem flat_in (v : Value) (os : List S59) (W : World) (hO : OpsV W v os) (hl : os.length ≤ 40) (hN : ∀ (q : Nat) (o : S59), os[q]? = some o → o.f5 ≤ 1000)
    (hf : ∀ V, Below W.heap.size W V → Calls Try.prog 14 #[v] V (Ret (fun u _ => u = .bool true) V)) :
    Calls Try.prog 4 #[v] W (Tru W) := by
  have HF := Lib.hid hf; clear hf
  have HAL := Lib.hid (fun V (hw : Below W.heap.size W V) => all_c v os V (hO.below hw) hl hN)
  clear hO hN
  go_enter Try.func4, Try.ntmps4
  go_wp2_with (first
    | (go_at_call 8; ((with_reducible refine (live_c _).mono ?_); rintro e w1 ⟨v, rfl, rfl, hb1⟩; have hB1 : Below W.heap.size W w1 := below_trans (by go_grown) hb1; clear hb1))
    | (go_at_call 14; ((with_reducible refine (HF.out _ (by go_grown)).mono ?_); rintro e w2 ⟨v, rfl, rfl, hb2⟩; have hB2 : Below W.heap.size W w2 := below_trans hB1 hb2; clear hb2))
    | (go_at_call 15; ((with_reducible refine (HAL.out _ hB2).mono ?_); rintro e wo ⟨v, rfl, ⟨vs, ls, hist, rfl, hh1, hh41, hH⟩, hb3⟩; have hB : Below W.heap.size W wo := below_trans hB2 hb3; obtain ⟨gv, cv, rfl, hgv, hcv⟩ := row_form hH.1 (by omega); obtain ⟨gl, cl, rfl, hgl, hcl⟩ := row_form hH.2.1 (by omega); have HCV := Lib.hid hcv; have HCL := Lib.hid hcl; have HH := Lib.hid hH; clear hcv hcl hH hb3)))
  have hn1 : (hist.length : Int) ≤ 41 := by omega
  go_loopg [25] hist.length (fun k v wr => Aside (SeqI wo hist.length k v wr))
  case atStart =>
    show SeqI _ _ _ _ _
    exact ⟨0, rfl, by omega, Below.refl _ _⟩
  case round =>
    obtain ⟨i, rfl, hi, hb⟩ := hrel.out
    clear hrel
    cases gk with
    | zero =>
      obtain rfl : i = hist.length := by omega
      clear hi
      go_wp2_with fail
      go_returns
      exact ⟨rfl, below_trans hB hb⟩
    | succ k =>
      have hiI : (i : Int) < (hist.length : Int) := by omega
      obtain ⟨⟨p1, s1, l1⟩, hx⟩ : ∃ x, hist[i]? = some x := ⟨_, List.getElem?_eq_getElem (by omega)⟩
      obtain ⟨ht, hs, hl2⟩ := HH.out.2.2.1 _ (List.mem_of_getElem? hx)
      have ht : Tree _ wo p1 l1 := ht
      have hs : SlV _ wo s1 (ints l1) := hs
      have hl2 : l1.length ≤ 4000 := hl2
      obtain ⟨A1, n1, c1, rfl⟩ := hs.form
      obtain rfl : n1 = l1.length := by have := hs.len; simpa using this
      have cvi := cell_below (HCV.out i (.pointer p1) (by rw [List.getElem?_map, hx]; rfl)) hb
      have cli := cell_below (HCL.out i (.slice A1 l1.length c1) (by rw [List.getElem?_map, hx]; rfl)) hb
      clear hx
      have hi0 : (0 : Int) ≤ (i : Int) := by omega
      have HDp := Lib.hid (fun V (hw : Below wo.heap.size wo V) => depth_o _ p1 l1 V (ht.below hw) (by omega))
      clear ht hs
      go_wp2_with fail
      go_region_held3 (fun w' => w'.cell? ⟨gv, i, none⟩ = some (.pointer p1) ∧ w'.cell? ⟨gl, i, none⟩ = some (.slice A1 l1.length c1))
        ((refine ⟨?_, ?_⟩ <;> first | (with_reducible exact cell_below cvi (by assumption)) | (with_reducible exact cell_below cli (by assumption)) | (go_keep; done)))
        (first
          | (go_at_call 17; (with_reducible refine (HDp.out _ (Below.drew hb)).mono ?_); rintro e wz ⟨v, rfl, ⟨D, rfl, hD⟩, hbz⟩; have hbz' : Below wr.heap.size wr wz := below_trans (w1 := wr.drew) (Below.refl _ _).drew hbz)
          | (go_at_call 16; (with_reducible refine (rflat_c _ _ hD _).mono ?_); rintro e wy ⟨v, rfl, rfl, hby⟩; have hby' : Below wr.heap.size wr wy := below_trans hbz' hby)
          | fail)
      go_wp2_with fail
      go_roundg k
      case measure => omega
      case rel =>
        show SeqI _ _ _ _ _
        exact ⟨i + 1, by first | rfl | (push_cast; rfl), by omega, below_trans hb hby'⟩

theorem flat_walk (v : Value) (os : List S59) (W : World) (hO : OpsV W v os) :
    Calls Try.prog 4 #[v] W fun e W' => e = .returned (.bool true) ∧ Below W.heap.size W W' := by
  obtain ⟨r, h1, h2⟩ := few_c W v os hO
  cases r with
  | false => exact flat_out v W h2
  | true => exact flat_in v os W hO (h1 rfl).1 (h1 rfl).2 h2
end Go.Proofs.Ytcjpdjecgeenfaa.Ro
