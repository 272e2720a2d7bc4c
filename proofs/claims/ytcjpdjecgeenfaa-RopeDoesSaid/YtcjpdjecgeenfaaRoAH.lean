/- Whatever is inserted, set, removed, cut and joined: the law's walk. -/
import Derived.Test.YtcjpdjecgeenfaaRoAG
set_option linter.unusedVariables false
set_option linter.unusedSimpArgs false
namespace Go.Proofs.Ytcjpdjecgeenfaa.Ro
open Go Go.RowKit Go.Proofs.Ytcjpdjecgeenfaa.Mem Go.Proofs.YtcjpdjecgeenfaaW.PrintWords Go.Proofs.Ytcjpdjecgeenfaa.PRopeDoes

set_option maxHeartbeats 4000000 in
theorem does_out (v : Value) (ask : Int) (W : World)
    (hf : ∀ V, Below W.heap.size W V → Calls Try.prog 14 #[v] V (Ret (fun u _ => u = .bool false) V)) :
    Calls Try.prog 5 #[v, .int .i64 ask] W (Tru W) := by
  have HF := Lib.hid hf; clear hf
  go_enter Try.func5, Try.ntmps5
  go_wp2_with (first
    | (go_at_call 14; ((with_reducible refine (HF.out _ (by go_grown)).mono ?_); rintro e w1 ⟨v, rfl, rfl, hb1⟩; have hB1 : Below W.heap.size W w1 := below_trans (by go_grown) hb1; clear hb1))
    | (go_at_call 8; ((with_reducible refine (live_c _).mono ?_); rintro e w2 ⟨v, rfl, rfl, hb2⟩; have hB2 : Below W.heap.size W w2 := below_trans (by go_grown) hb2; clear hb2)))
  go_returns
  exact ⟨rfl, by go_grown⟩

set_option maxRecDepth 100000 in
set_option maxHeartbeats 8000000 in
theorem does_in (v : Value) (ask : Int) (os : List S59) (W : World) (hO : OpsV W v os) (hl : os.length ≤ 40) (hN : ∀ (q : Nat) (o : S59), os[q]? = some o → o.f5 ≤ 1000)
    (hf : ∀ V, Below W.heap.size W V → Calls Try.prog 14 #[v] V (Ret (fun u _ => u = .bool true) V)) :
    Calls Try.prog 5 #[v, .int .i64 ask] W (Tru W) := by
  have HF := Lib.hid hf; clear hf
  have HAL := Lib.hid (fun V (hw : Below W.heap.size W V) => all_c v os V (hO.below hw) hl hN)
  clear hO hN
  go_enter Try.func5, Try.ntmps5
  go_wp2_with (first
    | (go_at_call 8; ((with_reducible refine (live_c _).mono ?_); rintro e w1 ⟨v, rfl, rfl, hb1⟩; have hB1 : Below W.heap.size W w1 := below_trans (by go_grown) hb1; clear hb1))
    | (go_at_call 14; ((with_reducible refine (HF.out _ (by go_grown)).mono ?_); rintro e w2 ⟨v, rfl, rfl, hb2⟩; have hB2 : Below W.heap.size W w2 := below_trans hB1 hb2; clear hb2))
    | (go_at_call 15; ((with_reducible refine (HAL.out _ hB2).mono ?_); rintro e wo ⟨v, rfl, ⟨vs, ls, hist, rfl, hh1, hh41, hH⟩, hb3⟩; have hB : Below W.heap.size W wo := below_trans hB2 hb3; obtain ⟨gv, cv, rfl, hgv, hcv⟩ := row_form hH.1 (by omega); obtain ⟨gl, cl, rfl, hgl, hcl⟩ := row_form hH.2.1 (by omega); have HCV := Lib.hid hcv; have HCL := Lib.hid hcl; have HH := Lib.hid hH; clear hcv hcl hH hb3)))
  have hn1 : (hist.length : Int) ≤ 41 := by omega
  go_loopg [31] hist.length (fun k v wr => Aside (SeqI wo hist.length k v wr))
  case atStart =>
    show SeqI _ _ _ _ _
    exact ⟨0, rfl, by omega, Below.refl _ _⟩
  case round =>
    obtain ⟨i, rfl, hi, hb⟩ := hrel.out
    clear hrel
    cases gk with
    | zero =>
      obtain rfl : i = hist.length := by omega
      clear hi
      go_wp2_with fail
      go_returns
      exact ⟨rfl, below_trans hB hb⟩
    | succ k =>
      have hiI : (i : Int) < (hist.length : Int) := by omega
      obtain ⟨⟨p1, s1, l1⟩, hx⟩ : ∃ x, hist[i]? = some x := ⟨_, List.getElem?_eq_getElem (by omega)⟩
      obtain ⟨ht, hs, hl2⟩ := HH.out.2.2.1 _ (List.mem_of_getElem? hx)
      have ht : Tree _ wo p1 l1 := ht
      have hs : SlV _ wo s1 (ints l1) := hs
      have hl2 : l1.length ≤ 4000 := hl2
      obtain ⟨A1, n1, c1, rfl⟩ := hs.form
      obtain rfl : n1 = l1.length := by have := hs.len; simpa using this
      have cvi := cell_below (HCV.out i (.pointer p1) (by rw [List.getElem?_map, hx]; rfl)) hb
      have cli := cell_below (HCL.out i (.slice A1 l1.length c1) (by rw [List.getElem?_map, hx]; rfl)) hb
      clear hx
      have hi0 : (0 : Int) ≤ (i : Int) := by omega
      obtain ⟨x, b, hg, hr⟩ := get_pair _ _ p1 _ l1 ask wo ht hs (by omega)
      have HG := Lib.hid hg; clear hg
      have HR := Lib.hid hr; clear hr
      have HSM := Lib.hid (fun V (hw : Below wo.heap.size wo V) => same_c _ _ p1 _ l1 V (ht.below hw) (hs.below hw) (by omega))
      clear ht hs
      go_wp2_with (first
        | (go_at_call 18; ((with_reducible refine (HG.out _ hb).mono ?_); rintro e w6 ⟨v, rfl, rfl, hb6⟩; have hB6 : Below wo.heap.size wo w6 := below_trans hb hb6; have cvi6 := cell_below cvi hb6; have cli6 := cell_below cli hb6))
        | (go_at_call 19; ((with_reducible refine (HR.out _ hB6).mono ?_); rintro e w7 ⟨v, rfl, rfl, hb7⟩; have hB7 : Below wo.heap.size wo w7 := below_trans hB6 hb7; have cvi7 := cell_below cvi6 hb7; have cli7 := cell_below cli6 hb7)))
      go_region_held3 (fun w' => w'.cell? ⟨gv, i, none⟩ = some (.pointer p1) ∧ w'.cell? ⟨gl, i, none⟩ = some (.slice A1 l1.length c1))
        ((refine ⟨?_, ?_⟩ <;> first | (with_reducible exact cell_below cvi7 (by assumption)) | (with_reducible exact cell_below cli7 (by assumption)) | (go_keep; done)))
        (first
          | (go_at_call 20; (with_reducible refine (HSM.out _ (Below.drew hB7)).mono ?_); rintro e wz ⟨v, rfl, rfl, hbz⟩; have hbz' : Below w7.heap.size w7 wz := below_trans (w1 := w7.drew) (Below.refl _ _).drew hbz)
          | fail)
      go_wp2_with fail
      go_roundg k
      case measure => omega
      case rel =>
        show SeqI _ _ _ _ _
        exact ⟨i + 1, by first | rfl | (push_cast; rfl), by omega, below_trans hB7 hbz'⟩

theorem does_walk (v : Value) (os : List S59) (ask : Int) (W : World) (hO : OpsV W v os) (_ : (Lit.int .i64 ask).wf = true) :
    Calls Try.prog 5 #[v, .int .i64 ask] W fun e W' => e = .returned (.bool true) ∧ Below W.heap.size W W' := by
  obtain ⟨r, h1, h2⟩ := few_c W v os hO
  cases r with
  | false => exact does_out v ask W h2
  | true => exact does_in v ask os W hO (h1 rfl).1 (h1 rfl).2 h2
end Go.Proofs.Ytcjpdjecgeenfaa.Ro
