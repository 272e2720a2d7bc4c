/- Laws of the maps' code and of the words it uses, gathered out of the printed and own texts; no conditions. -/
import Derived.Test.YtnegblckbomgdaaDoorHs5
import Derived.Test.YtnegblckbomgdaaDoorHsPAx6
import Derived.Deep.DeepCutAuto
import Derived.Test.YtnegblckbomgdaaDoorRows
import Derived.Deep.Slices
import Derived.Deep.Fields
import Derived.ChangeSame
import Derived.OpenShut
import Derived.MakeChecks
import Derived.FnData
import Derived.Lib.SmallJoins
set_option linter.unusedVariables false
set_option linter.unusedSimpArgs false
section
namespace Go.Proofs.YtnegblckbomgdaaDoor.Ht
open Go Go.RowKit Go.Proofs.YtnegblckbomgdaaDoor.Mem Go.Proofs.YtnegblckbomgdaaDoor.PA Go.Proofs.YtnegblckbomgdaaDoorW.PrintWords Go.Proofs.YtnegblckbomgdaaDoorW.PrintLast Go.Proofs.YtnegblckbomgdaaDoor.Bs Go.Proofs.YtnegblckbomgdaaDoor.U64
theorem refsum_c (c : Cf) (s : ByteArray) (hs : s.size ≤ 140737488351232) (w : World) : Calls Tryd.prog 34 #[.agg #[.int .u64 (U c.1), .int .i64 c.2], .string s] w (Ret (fun v _ => v = .int .u64 (U (hsh c s))) w) := by
  have h1 := at_rounds (g := fun k => placketref03_Text.f k (U c.1) s) (fun k => placketref03_Text.mono _ _ k) (k := 8 * s.size + 20) (k' := 8 * s.size + 85) (by omega) (rtext_eq c.1 s hs)
  have h2 := at_rounds (g := fun k => placketref03_Narrow.f k (U (sumB c.1 s)) c.2) (fun k => placketref03_Narrow.mono _ _ k) (k := 65) (k' := 8 * s.size + 85) (by omega) (rnarrow_eq (sumB c.1 s) c.2)
  refine (placketref09_Sum.calls (8 * s.size + 85) (U c.1) c.2 s (U (hsh c s)) w ?_).mono fun e w' h => ⟨_, h.1, rfl, h.2⟩
  unfold placketref09_Sum.f
  rw [show placketref03_Text.f (8 * s.size + 85) (U c.1) s = _ from h1, Option.bind_some, show placketref03_Narrow.f (8 * s.size + 85) (U (sumB c.1 s)) c.2 = _ from h2]
  rfl
theorem refchunk_c (c : Cf) (s : ByteArray) (lev : Nat) (hl : lev ≤ 12) (w : World) : Calls Tryd.prog 74 #[.int .u64 (U (hsh c s)), .int .i64 (lev : Int)] w (Ret (fun v _ => v = .int .i64 (chk c lev s : Int)) w) := by
  refine (placketref03_Chunk.calls _ _ _ w (rchunk_eq (hsh c s) (lev : Int))).mono ?_
  rintro e w' ⟨rfl, hD⟩
  exact ⟨_, rfl, rfl, hD.below⟩
theorem byteS (x : Nat) (hx : x < 256) : strOfNums [wrap64 (48 + (x : Int)) % 256] = bs [UInt8.ofNat (48 + x)] ∨ ¬ x < 10 := by
  by_cases h : x < 10
  · left
    have e : wrap64 (48 + (x : Int)) % 256 = ((48 + x : Nat) : Int) := by rw [w64_in (by omega) (by omega)]; omega
    rw [e]
    have h2 := strOfNums_N [UInt8.ofNat (48 + x)]
    rw [← h2]
    have e3 : (UInt8.ofNat (48 + x)).toNat = 48 + x := by rw [UInt8.toNat_ofNat', Nat.mod_eq_of_lt (by omega)]
    simp only [N, List.map_cons, List.map_nil, e3]
  · exact .inr h
theorem byteD (x : Nat) (hx : x < 10) : strOfNums [wrap64 (48 + (x : Int)) % 256] = bs [UInt8.ofNat (48 + x)] := (byteS x (by omega)).resolve_right (by omega)
theorem digits_l (k : Nat) : k ≤ 1000 → ∀ n : Nat, n < 10 ^ (k + 1) → n < 1000000000 → placketref01_Digits.f (k + 1) (n : Int) = some (bs ((digL k n).map fun x => UInt8.ofNat x)) := by
  induction k with
  | zero =>
    intro _ n h h9
    simp at h
    unfold placketref01_Digits.f
    rw [if_neg (by omega), if_neg (by omega), if_pos (by omega), byteD n h]
    simp only [digL, List.map_cons, List.map_nil, show n % 10 = n by omega]
  | succ k ih =>
    intro hk n h h9
    rw [Nat.pow_succ] at h
    unfold placketref01_Digits.f
    rw [if_neg (by omega), if_neg (by omega)]
    by_cases hn : n < 10
    · rw [if_pos (by omega), byteD n hn]
      simp only [digL, if_pos hn, List.map_cons, List.map_nil]
    · have e1 : wrap64 (Int.tdiv (n : Int) 10) = ((n / 10 : Nat) : Int) := by rw [Int.tdiv_eq_ediv_of_nonneg (by omega), w64_in (by omega) (by omega)]; omega
      have e2 : Int.tmod (n : Int) 10 = ((n % 10 : Nat) : Int) := by rw [Int.tmod_eq_emod_of_nonneg (by omega)]; omega
      rw [if_neg (by omega), e1, ih (by omega) (n / 10) (by omega) (by omega), Option.bind_some, Option.bind_some, e2, byteD (n % 10) (by omega), bs_append, bs_size, bs_size, if_pos (by
        have := digL_length k (n / 10)
        rw [List.length_map]
        simp only [List.length_cons, List.length_nil]
        omega)]
      simp only [digL, if_neg hn, List.map_append, List.map_cons, List.map_nil]
theorem refdigits_c (n : Nat) (hn : n < 1000000000) (w : World) : Calls Tryd.prog 73 #[.int .i64 (n : Int)] w (Ret (fun v _ => v = .string (digT n)) w) := by
  have h := digits_l 19 (by decide) n (Nat.lt_trans hn (by decide)) hn
  exact (placketref01_Digits.calls 20 (n : Int) _ w h).mono fun e w' h => ⟨_, h.1, rfl, h.2⟩
theorem words_loop (l m : List ByteArray) (hl : l.length = m.length) (hb : l.length ≤ 1000000) : ∀ (d i : Nat), i + d = l.length → l.take i = m.take i → Ev (fun f => placketref09_Words.l0 f l m (l.length : Int) (i : Int)) (decide (l = m))
  | 0, i, hi, he => by
    refine Ev.ge 1 fun f => ?_
    simp only [placketref09_Words.l0]
    rw [if_neg (by omega)]
    rw [List.take_of_length_le (by omega), List.take_of_length_le (by omega)] at he
    simp [he]
  | d + 1, i, hi, he => by
    have hx : l[i]? = some l[i] := List.getElem?_eq_getElem (by omega)
    have hy : m[i]? = some m[i] := List.getElem?_eq_getElem (by omega)
    generalize l[i] = x at hx
    generalize m[i] = y at hy
    have rx : rdOf ByteArray.empty l (i : Int) = x := by simp [rdOf, List.getD_eq_getElem?_getD, hx]
    have ry : rdOf ByteArray.empty m (i : Int) = y := by simp [rdOf, List.getD_eq_getElem?_getD, hy]
    by_cases hxy : x = y
    · have he' : l.take (i + 1) = m.take (i + 1) := by rw [List.take_add_one, List.take_add_one, he, hx, hy, hxy]
      obtain ⟨K, ih⟩ := words_loop l m hl hb d (i + 1) (by omega) he'
      refine Ev.shift 1 ⟨K, fun f hf => ?_⟩
      simp only [placketref09_Words.l0]
      rw [if_pos (by omega), if_pos (by omega), if_pos (by omega), if_pos (by omega), rx, ry, if_pos (by rw [hxy]), w64_succ (by omega)]
      exact ih f hf
    · refine Ev.ge 1 fun f => ?_
      simp only [placketref09_Words.l0]
      have hne : ¬ x.toList = y.toList := fun e => by
        rw [ByteArray.toList_eq, ByteArray.toList_eq] at e
        exact hxy (data_inj e)
      have hlm : ¬ l = m := fun e => by subst e; rw [hx] at hy; injection hy with hy; exact hxy hy
      rw [if_pos (by omega), if_pos (by omega), if_pos (by omega), if_pos (by omega), rx, ry, if_neg hne]
      simp [hlm]
theorem words_ev (l m : List ByteArray) (hb : l.length ≤ 1000000) : Ev (fun f => placketref09_Words.f f l m) (decide (l = m)) := by
  unfold placketref09_Words.f
  by_cases hl : l.length = m.length
  · have h := words_loop l m hl hb l.length 0 (by omega) rfl
    refine Ev.congr (fun f => ?_) h
    rw [if_pos (by omega)]; rfl
  · refine Ev.congr (f := fun _ => some false) (fun f => by rw [if_neg (by omega)]) ?_
    have : ¬ l = m := fun e => hl (by rw [e])
    simp only [this, decide_false]
    exact Ev.now _
theorem words_c (K K' : Nat → Prop) (u v : Value) (L M : List Pr) (hb : L.length ≤ 1000000) (w : World) (hu : SlV K w u (ksV L)) (hv : SlV K' w v (ksV M)) :
    Calls Tryd.prog 30 #[u, v] w (Ret (fun r _ => r = .bool (decide (keysL L = keysL M))) w) := by
  obtain ⟨A1, c1, rfl⟩ := SlV.form' hu
  obtain ⟨A2, c2, rfl⟩ := SlV.form' hv
  rw [ksV_length] at hu hv
  rw [ksV_length, ksV_length]
  obtain ⟨e1, C1, b1⟩ := keys_C hu
  obtain ⟨e2, C2, b2⟩ := keys_C hv
  obtain ⟨f, hf⟩ := words_ev (keysL L) (keysL M) (by rw [keysL_length]; exact hb)
  have := placketref09_Words.calls f A1 c1 (keysL L) A2 c2 (keysL M) _ w C1 b1 C2 b2 (hf f (Nat.le_refl _))
  rw [← e1, ← e2] at this
  exact this.mono fun e w' h => ⟨_, h.1, rfl, h.2.below⟩
end Go.Proofs.YtnegblckbomgdaaDoor.Ht
end
section
namespace Go.Proofs.YtnegblckbomgdaaDoor.Ht
open Go Go.RowKit Go.Shelf Go.Proofs.YtnegblckbomgdaaDoor.Mem Go.Proofs.YtnegblckbomgdaaDoor.PA Go.Proofs.YtnegblckbomgdaaDoorW.PrintWords
attribute [local go_sem] Oper.semAt_some
def ShC (p : Option Addr) (lev : Nat) (t : ByteArray) (W : World) : Prop :=
  Calls Tryd.prog 72 #[.pointer p, .int .i64 (lev : Int)] W (Ret (fun v _ => v = .string t) W)
set_option maxRecDepth 100000 in
set_option maxHeartbeats 4000000 in
theorem shape_leaf (g : Nat) (b : Value) (A : Option Addr) (n cp : Nat) (W : World) (hn : n < 1000000) (hg : W.heap[g]? = some (.cells #[.int .u32 0, b, .slice A n cp] NT (0, 0))) :
    ShC (some ⟨g, 0, none⟩) 13 ((⟨#[91]⟩ ++ digT n) ++ ⟨#[93]⟩) W := by
  obtain ⟨⟨k0, k1, k2⟩, -⟩ := box3 hg
  have HD := Lib.hid (fun V => digits_c n (by omega) V)
  have hsz : (digT n).size ≤ 20 := digT_size n
  generalize digT n = t at HD hsz ⊢
  have hs1 : ¬ ((2 : Int) + (t.size : Int) > 9223372036854775807) := by omega
  have K2 := cell_below k2 ((Below.refl W.heap.size W).alloc (Nat.le_refl _) (.cells #[.int .i64 13] 3))
  unfold ShC
  clear hg
  go_enter Tryd.func72, Tryd.ntmps72
  go_wp2_with (first
    | (go_at_call 96; ((with_reducible refine (HD.out _).mono ?_); rintro e w1 ⟨v, rfl, rfl, hb1⟩))
    | fail)
  go_returns
  exact ⟨_, rfl, rfl, below_trans ((Below.refl _ _).alloc (Nat.le_refl _) _) hb1⟩
set_option maxRecDepth 100000 in
set_option maxHeartbeats 8000000 in
theorem shape_walk (K : Nat → Prop) (hK0 : K 0) (g : Nat) (A : Option Addr) (nn cp : Nat) (c : Nat → Option (List Value)) (sl : Value) (tx : Nat → ByteArray) (S : Nat) (W : World) (hKb : ∀ b, K b → b < W.heap.size) (hKg : K g) (lev : Nat) (hlev : lev < 13)
    (hg : W.heap[g]? = some (.cells #[.int .u32 (bitsN (has c) 32 : Int), .slice A nn cp, sl] NT (0, 0))) (hrow : RowS K W (.slice A nn cp) c) (hT : Tab W)
    (hkid : ∀ i x, i < 32 → c i = some x → (∃ k y, x = [.string k, .int .i64 y, .pointer none] ∧ tx i = digT i ++ dotB) ∨ (∃ (g' : Nat) (t : ByteArray), x = [.string ⟨#[]⟩, .int .i64 0, .pointer (some ⟨g', 0, none⟩)] ∧ tx i = digT i ++ t ∧ ∀ W', Kept K W W' → W.heap.size ≤ W'.heap.size → ShC (some ⟨g', 0, none⟩) (lev + 1) t W'))
    (hX : Slots c) (htx : ∀ i, (tx i).size ≤ S) (hS : 33 * S ≤ 1000000000) :
    ShC (some ⟨g, 0, none⟩) lev (strZ tx (zC c 0 32) ++ clB) W := by
  have hmx : Tryd.prog.follows .mixedOrders = true := by kernel_rfl
  have hl13 : ¬ (lev : Int) = 13 := by omega
  have hl13b : ((lev : Int) == 13) = false := by simp [hl13]
  have hlev1 : IntKind.i64.wrap ((lev : Int) + 1) = (lev : Int) + 1 := by rw [IntKind.wrap_i64]; omega
  obtain ⟨⟨k0, k1, k2⟩, -⟩ := box3 hg
  have hglt := blk_lt hg
  have hB2 : Below W.heap.size W ((W.alloc (.cells #[.int .i64 (lev : Int)] 3)).alloc (.cells #[.string opB] 9)) := ((Below.refl W.heap.size W).alloc (Nat.le_refl _) _).alloc (by simp) _
  have hcL := blk_alloc (blk_new W (.cells #[.int .i64 (lev : Int)] 3)) (.cells #[.string opB] 9)
  have hcS := heap_k1 W (.cells #[.int .i64 (lev : Int)] 3) (.cells #[.string opB] 9)
  have hs2 : ((W.alloc (.cells #[.int .i64 (lev : Int)] 3)).alloc (.cells #[.string opB] 9)).heap.size = W.heap.size + 2 := by simp
  have K0 := cell_below k0 hB2
  have K1 := cell_below k1 hB2
  have HROW := Lib.hid hrow; have HT := Lib.hid hT; have HKID := Lib.hid hkid; have HX := Lib.hid hX; have HTX := Lib.hid htx; have HS := Lib.hid hS; have HKB := Lib.hid hKb; have HB2 := Lib.hid hB2; have HCL := Lib.hid hcL; have HCS := Lib.hid hcS; have HS2 := Lib.hid hs2
  have hKW : Kept K W ((W.alloc (.cells #[.int .i64 (lev : Int)] 3)).alloc (.cells #[.string opB] 9)) := fun b hb => hB2.block b (hKb b hb)
  have HKW := Lib.hid hKW
  clear hrow hT hkid hX htx hS hg hB2 hcL hcS hs2 hKW
  unfold ShC
  refine (callsIn_wide (n := 3)).1 ?_
  refine callsIn_of_wp_marks Tryd.func72 rfl trivial ?_ rfl
  simp only [Tryd.ntmps72, List.size_toArray, List.length_cons, List.length_nil, Nat.reduceAdd, Nat.reduceSub, Array.replicate_succ, Array.replicate_zero, List.push_toArray, List.append_toArray, List.nil_append, List.cons_append]
  gi_wp2_with fail
  refine ⟨trivial, (callsIn_wide.2 (hall_in _ A nn cp _)).mono ?_⟩
  rintro e w' ⟨rfl, rfl⟩
  gi_wp2_with fail
  generalize (W.alloc (.cells #[.int .i64 (lev : Int)] 3)).alloc (.cells #[.string opB] 9) = wr at HB2 HCL HCS HS2 HKW K0 K1 ⊢
  have hbn := blk_new wr (Obj.cells #[.int .u32 (bitsN (has c) 32 : Int), .slice A nn cp] RWT)
  have hcL2 := blk_alloc HCL.out (Obj.cells #[.int .u32 (bitsN (has c) 32 : Int), .slice A nn cp] RWT)
  have hcS2 := blk_alloc HCS.out (Obj.cells #[.int .u32 (bitsN (has c) 32 : Int), .slice A nn cp] RWT)
  have hB3 := HB2.out.alloc HB2.out.size (Obj.cells #[.int .u32 (bitsN (has c) 32 : Int), .slice A nn cp] RWT)
  have hsz : (wr.alloc (.cells #[.int .u32 (bitsN (has c) 32 : Int), .slice A nn cp] RWT)).heap.size = wr.heap.size + 1 := by simp
  obtain ⟨W2, hW2⟩ : ∃ W2, W2 = wr.alloc (.cells #[.int .u32 (bitsN (has c) 32 : Int), .slice A nn cp] RWT) := ⟨_, rfl⟩
  rw [← hW2] at hbn hcL2 hcS2 hB3 hsz ⊢
  rw [show wr.heap.size = W.heap.size + 1 + 1 from HS2.out] at hbn hsz
  clear hW2
  have hK2 : Kept K W W2 := fun b hb => hB3.block b (HKB.out b hb)
  have hs2 := HS2.out
  have hK' : ∀ b, (K b ∨ b = W.heap.size + 1 + 1) → b < W2.heap.size := fun b hb => hb.elim (fun h => by have := HKB.out b h; omega) fun h => by omega
  have hneK : ∀ b, (K b ∨ b = W.heap.size + 1 + 1) → b ≠ W.heap.size + 1 := fun b hb => hb.elim (fun h => by have := HKB.out b h; omega) fun h => by omega
  have hOwn : OwnFrom W2.heap.size (fun (zs : List (In (zC c 0 32))) W' => ((W'.heap[W.heap.size + 1]? = some (.cells #[.string (strZ tx (zs.map Subtype.val))] 9 (0, 0)) ∧ Below W.heap.size W W') ∧ NQ (W.heap.size + 1) W2 W') ∧ KeepsFrom 0 W W') :=
    OwnFrom.and (OwnFrom.and (OwnFrom.and (sbx_own _ _ (fun zs : List (In (zC c 0 32)) => Value.string (strZ tx (zs.map Subtype.val))) _) (ownFrom_below (Nat.le_refl _) (by omega))) (nq_own _ _ _)) (ownFrom_keepsFrom (by omega))
  have HBN := Lib.hid hbn; have HCL2 := Lib.hid hcL2; have HCS2 := Lib.hid hcS2; have HB3 := Lib.hid hB3; have HK2 := Lib.hid hK2; have HK' := Lib.hid hK'; have HNE := Lib.hid hneK; have HSZ := Lib.hid hsz
  clear hbn hcL2 hcS2 hB3 hK2 hK' hneK hsz
  refine' rangeH (Z := zC c 0 32) rfl (by decide) (gf := 120) (lb := #[.pointer (some ⟨W.heap.size + 1 + 1, 0, none⟩)]) rfl trivial (enters_of Tryd.func120 (by kernel_rfl) rfl)
    (hall_stops (fun b => K b ∨ b = W.heap.size + 1 + 1) (W.heap.size + 1 + 1) _ (cnt (has c) 32) c (.slice A nn cp) W2 (HT.out.old hK0 HK2.out) (Or.inl hK0) (Or.inr rfl) HK'.out HBN.out (((HROW.out.old HK2.out)).keep (fun b h _ => Or.inl h) (fun _ _ _ => rfl)) HX.out (Nat.le_refl _)) (fun h k => Kept.trans h k) ?kb ?b0
    _ (fun _ _ _ => False) hOwn (fun _ _ _ _ _ hs _ _ => hs) ?h0 ?assign ?body ?done ?stop
  case b0 => exact Below.refl _ _
  case h0 => exact ⟨⟨⟨HCS2.out, HB3.out⟩, fun _ _ _ _ h _ => h⟩, (KeepsOthers.of_below HB3.out).from 0⟩
  case kb =>
    intro W' l o o' hl _ _ _ b hb
    have hb4 := HK'.out b hb
    have hne : b ≠ l := by omega
    simp [World.putObj, Array.getElem?_setIfInBounds_ne (Ne.symm hne)]
  case stop =>
    rintro D cc zs W' _ _ h _
    exact h.elim
  case assign =>
    rintro l pre' x W' K' hI hK
    obtain ⟨⟨i, k, y, q⟩, hx⟩ := x
    have hs2 : W2.heap.size ≤ W'.heap.size := by
      have h1 := hI.1.2 _ _ _ _ HBN.out (by omega)
      have := blk_lt h1
      have := HSZ.out
      omega
    gi_wp2_with fail
    refine hK _ _ ((KeepsOthers.alloc W' (Obj.cells #[.string k, .int .i64 y, .pointer q] ST)).from _) (fun b hb => hao W' (Obj.cells #[.string k, .int .i64 y, .pointer q] ST) b (by have := HK'.out b hb; omega)) (hOwn.alloc _ hI) ⟨W'.heap.size, hs2, blk_new W' _, by first | rfl | simp⟩
  case done =>
    rintro D zs W' hD hS ⟨⟨⟨hO', hB'⟩, hNP⟩, hKF⟩ hK
    rw [hS] at hO'
    have hz := strZ_size HTX.out (zC c 0 32)
    rw [zC_length HX.out] at hz
    have hz2 : cnt (has c) 32 * S ≤ 32 * S := Nat.mul_le_mul_right S (cnt_le _ _)
    have hz3 : (strZ tx (zC c 0 32)).size ≤ 1000000001 := by have := HS.out; omega
    obtain ⟨s, hs⟩ : ∃ s, s = strZ tx (zC c 0 32) := ⟨_, rfl⟩
    rw [← hs] at hO' hz3
    have HS3 := Lib.hid hs
    obtain ⟨s0, -⟩ := box1 hO'
    have HB' := Lib.hid hB'; have HKK := Lib.hid hK
    clear hO' hB' hNP hKF hS hz hz2 hs
    gi_wp2_with fail
    refine ⟨by simp, .inl ⟨_, _, rfl, run_takeDeferred HKK.out, ?_⟩⟩
    exact ⟨_, results_tmp rfl _ _ _, _, rfl, (by show _ = Value.string (strZ tx (zC c 0 32) ++ clB); rw [← HS3.out]; rfl), HB'.out.trans (belowK_b (w := W) (Nat.le_refl _) W' D _ _ (by have := HSZ.out; omega) HKK.out rfl rfl)⟩
  case body =>
    rintro l pre' ⟨⟨i, k, y, q⟩, hx⟩ a' W' hl hlr hI ⟨Bx, hBx, hbx, rfl⟩ hlt
    obtain ⟨⟨z0, z1, z2⟩, -⟩ := box3 hbx
    dsimp only at z0 z1 z2
    obtain ⟨j, hj, rfl, hcj⟩ := mem_zC HX.out hx
    have hoz := strZ_size HTX.out (pre'.map Subtype.val)
    rw [List.length_map] at hoz
    have hz2 : pre'.length * S ≤ 32 * S := Nat.mul_le_mul_right S (Nat.le_trans (Nat.le_of_lt hlt) (cnt_le _ _))
    have hz3 : (strZ tx (pre'.map Subtype.val)).size + S ≤ 1000000001 := by have := HS.out; omega
    have hsn : strZ tx ((pre' ++ [(⟨((j : Int), k, y, q), hx⟩ : In (zC c 0 32))]).map Subtype.val) = strZ tx (pre'.map Subtype.val) ++ tx j := by
      rw [List.map_append]
      exact strZ_snoc tx _ _
    have hL' := (box1 (hI.1.2 _ _ _ _ HCL2.out (by omega))).1
    have hS' := hI.1.1.1
    have hKW' : Kept K W W' := fun b hb => hI.1.1.2.block b (HKB.out b hb)
    have hbS : Bx ≠ W.heap.size + 1 := by have := HSZ.out; omega
    have hbS' : W.heap.size + 1 ≠ Bx := Ne.symm hbS
    have hbL : W.heap.size ≠ W.heap.size + 1 := by omega
    have hsW' : W.heap.size ≤ W'.heap.size := hI.1.1.2.size
    obtain ⟨s, hs⟩ : ∃ s, s = strZ tx (pre'.map Subtype.val) := ⟨_, rfl⟩
    rw [← hs] at hz3 hsn hS'
    have hfin : ∀ (w1 w2 : World) (t : ByteArray), Below W'.heap.size W' w1 → Below (w1.setCell ⟨W.heap.size + 1, 0, none⟩ (.string (s ++ digT j))).heap.size (w1.setCell ⟨W.heap.size + 1, 0, none⟩ (.string (s ++ digT j))) w2 → tx j = digT j ++ t →
        KeepsFrom W2.heap.size W' (w2.setCell ⟨W.heap.size + 1, 0, none⟩ (.string (s ++ digT j ++ t))) ∧ Kept (fun b => K b ∨ b = W.heap.size + 1 + 1) W' (w2.setCell ⟨W.heap.size + 1, 0, none⟩ (.string (s ++ digT j ++ t))) ∧
        ((((w2.setCell ⟨W.heap.size + 1, 0, none⟩ (.string (s ++ digT j ++ t))).heap[W.heap.size + 1]? = some (.cells #[.string (strZ tx ((pre' ++ [(⟨((j : Int), k, y, q), hx⟩ : In (zC c 0 32))]).map Subtype.val))] 9 (0, 0)) ∧ Below W.heap.size W (w2.setCell ⟨W.heap.size + 1, 0, none⟩ (.string (s ++ digT j ++ t)))) ∧ NQ (W.heap.size + 1) W2 (w2.setCell ⟨W.heap.size + 1, 0, none⟩ (.string (s ++ digT j ++ t)))) ∧ KeepsFrom 0 W (w2.setCell ⟨W.heap.size + 1, 0, none⟩ (.string (s ++ digT j ++ t)))) := by
      intro w1 w2 t h1 h2 ht
      have hKO : KeepsOthers W' (w2.setCell ⟨W.heap.size + 1, 0, none⟩ (.string (s ++ digT j ++ t))) := (((KeepsOthers.of_below h1).trans (KeepsOthers.setCell _ _ _)).trans (KeepsOthers.of_below h2)).trans (KeepsOthers.setCell _ _ _)
      have hoth : ∀ b, b < W'.heap.size → b ≠ W.heap.size + 1 → (w2.setCell ⟨W.heap.size + 1, 0, none⟩ (.string (s ++ digT j ++ t))).heap[b]? = W'.heap[b]? := fun b hb hne => by
        rw [Below.heap_setCell _ _ _ _ hne]
        refine (h2.block b (by rw [World.size_setCell]; exact Nat.lt_of_lt_of_le hb h1.size)).trans ?_
        rw [Below.heap_setCell _ _ _ _ hne]
        exact h1.block b hb
      have hbS1 := blk_put (blk_below hS' h1) 0 (Value.string (s ++ digT j)) rfl
      have hbS2 := blk_put (blk_below hbS1 h2) 0 (Value.string (s ++ digT j ++ t)) rfl
      have hbel : Below W.heap.size W (w2.setCell ⟨W.heap.size + 1, 0, none⟩ (.string (s ++ digT j ++ t))) :=
        (below_trans ((below_trans hI.1.1.2 h1).setCell (p := ⟨W.heap.size + 1, 0, none⟩) (Nat.le_succ _) _) h2).setCell (p := ⟨W.heap.size + 1, 0, none⟩) (Nat.le_succ _) _
      refine ⟨hKO.from _, fun b hb => ?_, ⟨⟨⟨?_, hbel⟩, fun b cs t fr g1 g2 => ?_⟩, hI.2.trans (hKO.from 0)⟩⟩
      · refine hoth b ?_ (HNE.out b hb)
        rcases hb with hb | hb
        · exact Nat.lt_of_lt_of_le (HKB.out b hb) hsW'
        · have h3 := blk_lt (hI.1.2 _ _ _ _ HBN.out (by omega))
          omega
      · rw [hsn, ht, ← cat_assoc]; exact hbS2
      · have h3 := hI.1.2 _ _ _ _ g1 g2
        exact (hoth b (blk_lt h3) g2).trans h3
    have HFIN := Lib.hid hfin; have HSW := Lib.hid hsW'; have HKW' := Lib.hid hKW'
    have HDG := Lib.hid (fun V => digits_c j (by omega) V)
    have hdz := digT_size j
    have htj := HTX.out j
    obtain ⟨s0, s0f⟩ := box1 hS'
    have hkj := HKID.out j _ (by omega) hcj
    have HSL := Lib.hid (And.intro hS' (And.intro hbx (hI.1.2 _ _ _ _ HCL2.out (by omega))))
    clear hI hlr hl hoz hsn hfin hcj hsW' hKW' hS' hz2 hs hbx
    generalize digT j = dj at HDG HFIN hdz hkj
    rcases hkj with ⟨k2, y2, he, hpr⟩ | ⟨g', t, he, hpr, hkid⟩
    · injection he with h1 h2
      injection h2 with h2 h3
      injection h3 with h3 _
      injection h1 with h1
      injection h2 with _ h2
      injection h3 with h3
      subst h1 h2 h3
      rw [hpr, size_cat] at htj
      have hz4 : (s ++ dj).size ≤ 1000000001 := by rw [size_cat]; omega
      gi_wp2_with fail
      gi_region_with_o (refine ⟨trivial, (CallsIn.inRound l (callsIn_wide.2 (HDG.out _))).mono ?_⟩; rintro e w1 ⟨v, rfl, rfl, hb1⟩; have hb1 := below_trans (w1 := World.drew _) (Below.refl _ _).drew hb1; have s1 := cell_below s0 hb1; have z21 := cell_below z2 hb1; have f1 := blk_frozen (blk_below HSL.out.1 hb1) 0; have t1 := (box1 (blk_put (blk_below HSL.out.1 hb1) 0 (Value.string (s ++ dj)) rfl)).1; have g1 := (box1 (blk_put (blk_below HSL.out.1 hb1) 0 (Value.string (s ++ dj)) rfl)).2; have HF := Lib.hid (HFIN.out w1 _ dotB hb1 (Below.refl _ _) hpr); clear hb1)
      all_goals (gi_wp2_with fail)
      all_goals exact HF.out
    · injection he with h1 h2
      injection h2 with h2 h3
      injection h3 with h3 _
      injection h1 with h1
      injection h2 with _ h2
      injection h3 with h3
      subst h1 h2 h3
      rw [hpr, size_cat] at htj
      have hz4 : (s ++ dj).size + t.size ≤ 1000000001 := by rw [size_cat]; omega
      have HKD := Lib.hid (fun V (h1 : Kept K W V) (h2 : W.heap.size ≤ V.heap.size) => (show Calls _ _ _ _ _ from hkid V h1 h2))
      clear hkid
      gi_wp2_with fail
      gi_region_with_o (refine ⟨trivial, (CallsIn.inRound l (callsIn_wide.2 (HDG.out _))).mono ?_⟩; rintro e w1 ⟨v, rfl, rfl, hb1⟩; have hb1 := below_trans (w1 := World.drew _) (Below.refl _ _).drew hb1; have s1 := cell_below s0 hb1; have f1 := blk_frozen (blk_below HSL.out.1 hb1) 0; have BS := blk_put (blk_below HSL.out.1 hb1) 0 (Value.string (s ++ dj)) rfl; have zx := (box3 (blk_far (blk_below HSL.out.2.1 hb1) (p := ⟨W.heap.size + 1, 0, none⟩) hbS (.string (s ++ dj)))).1.2.2; have lx := (box1 (blk_far (blk_below HSL.out.2.2 hb1) (p := ⟨W.heap.size + 1, 0, none⟩) hbL (.string (s ++ dj)))).1; have HC := Lib.hid (HKD.out (World.drew (w1.setCell ⟨W.heap.size + 1, 0, none⟩ (.string (s ++ dj)))) (fun b hb => (Below.heap_setCell w1 ⟨W.heap.size + 1, 0, none⟩ (.string (s ++ dj)) b (HNE.out b (Or.inl hb))).trans ((hb1.block b (Nat.lt_of_lt_of_le (HKB.out b hb) HSW.out)).trans (HKW'.out b hb))) (by show W.heap.size ≤ (w1.setCell ⟨W.heap.size + 1, 0, none⟩ (.string (s ++ dj))).heap.size; rw [World.size_setCell]; exact Nat.le_trans HSW.out hb1.size)); have HF := Lib.hid (fun w2 h2 => HFIN.out w1 w2 t hb1 h2 hpr); have BSH := Lib.hid BS; clear hb1)
      all_goals (gi_wp2_with fail)
      all_goals (
        generalize hX : w1.setCell ⟨W.heap.size + 1, 0, none⟩ (.string (s ++ dj)) = X at BS BSH zx lx HC HF ⊢
        obtain ⟨t1, g1⟩ := box1 BS
        clear BS hX s1 f1 s0 s0f z0 z1 z2 hL'
        gi_region_with_o (refine ⟨trivial, (CallsIn.inRound l (callsIn_wide.2 HC.out)).mono ?_⟩; rintro e w2 ⟨v, rfl, rfl, hb2⟩; have hb2 := below_trans (w1 := World.drew _) (Below.refl _ _).drew hb2; have s2 := cell_below t1 hb2; have f2 := blk_frozen (blk_below BSH.out hb2) 0; have HE := Lib.hid (HF.out w2 hb2); clear hb2))
      all_goals (gi_wp2_with fail)
      all_goals (first | exact HE.out | trace_state)
end Go.Proofs.YtnegblckbomgdaaDoor.Ht
end
section
namespace Go.Proofs.YtnegblckbomgdaaDoor.Ht
open Go Go.RowKit Go.Shelf Go.Proofs.YtnegblckbomgdaaDoor.Mem Go.Proofs.YtnegblckbomgdaaDoor.PA Go.Proofs.YtnegblckbomgdaaDoorW.PrintWords Go.Proofs.YtnegblckbomgdaaDoor.U64
theorem fold_size (f : Nat → ByteArray) (g : Nat → Nat) (C : Nat) (h : ∀ i, (f i).size ≤ C * g i) : ∀ n, ((List.range n).foldl (fun s i => s ++ f i) opB).size ≤ 1 + C * ((List.range n).map g).sum
  | 0 => by have : opB.size = 1 := rfl; simpa using Nat.le_of_eq this
  | n + 1 => by
    have ih := fold_size f g C h n
    have hn := h n
    rw [List.range_succ, List.foldl_append, List.map_append, List.sum_append, Nat.mul_add]
    simp only [List.foldl_cons, List.foldl_nil, List.map_cons, List.map_nil, List.sum_cons, List.sum_nil, Nat.add_zero]
    rw [size_cat]
    omega
theorem grp_sum (ck : ByteArray → Nat) (M : List Pr) : ((List.range 32).map fun i => (grp ck i M).length).sum ≤ M.length := by
  have h := (grp_parts ck M 32).length_eq
  rw [List.length_flatMap] at h
  rw [h]
  exact List.length_filter_le _ _
theorem part_size (sub : List Pr → ByteArray) (C : Nat) (i : Nat) (G : List Pr) (h : (sub G).size ≤ 22 + C * G.length) : (partT sub i G).size ≤ (42 + C) * G.length := by
  have hd := digT_size i
  match G, h with
  | [], _ => exact Nat.zero_le _
  | [e], _ =>
    have hdot : dotB.size = 1 := rfl
    simp only [partT, size_cat, List.length_cons, List.length_nil]
    omega
  | e :: f :: r, h =>
    have hl : 2 ≤ (e :: f :: r).length := by simp
    simp only [partT, size_cat]
    generalize (e :: f :: r).length = n at h hl ⊢
    rw [Nat.add_mul]
    omega
theorem shapeT_size (c : Cf) : ∀ (d : Nat) (M : List Pr), (shapeT c d M).size ≤ 22 + 65 * (d + 1) * M.length
  | 0, M => by
    have h := digT_size M.length
    have h1 : (⟨#[91]⟩ : ByteArray).size = 1 := rfl
    have h2 : (⟨#[93]⟩ : ByteArray).size = 1 := rfl
    unfold shapeT
    rw [size_cat, size_cat]
    omega
  | d + 1, M => by
    have h := fold_size (fun i => partT (shapeT c d) i (grp (chk c (12 - d)) i M)) (fun i => (grp (chk c (12 - d)) i M).length) (42 + 65 * (d + 1)) (fun i => part_size _ _ _ _ (shapeT_size c d _)) 32
    have h2 := grp_sum (chk c (12 - d)) M
    have h3 : clB.size = 1 := rfl
    have h4 := Nat.mul_le_mul_left (42 + 65 * (d + 1)) h2
    unfold shapeT
    rw [size_cat]
    have e : 65 * (d + 1 + 1) * M.length = 65 * (d + 1) * M.length + 65 * M.length := by rw [Nat.mul_add 65 (d + 1) 1, Nat.add_mul]
    have h5 : (42 + 65 * (d + 1)) * M.length = 42 * M.length + 65 * (d + 1) * M.length := Nat.add_mul _ _ _
    omega
theorem strZ_conts (c : Cf) (l : Nat) (M : List Pr) (q : Nat → Option Addr) (tx : Nat → ByteArray) (h : ∀ i, grp (chk c l) i M = [] → tx i = ⟨#[]⟩) : ∀ n, strZ tx (zC (conts c l M q) 0 n) = (List.range n).foldl (fun s i => s ++ tx i) opB
  | 0 => rfl
  | n + 1 => by
    rw [zC_add, Nat.zero_add, zC_one, List.range_succ, List.foldl_append]
    have ih := strZ_conts c l M q tx h n
    unfold strZ at ih ⊢
    rw [List.foldl_append, ih]
    show (zOf n (slotOf (grp (chk c l) n M) (q n))).foldl _ _ = _
    match hg : grp (chk c l) n M with
    | [] =>
      rw [show slotOf ([] : List Pr) (q n) = none from rfl]
      simp only [zOf, List.foldl_nil, List.foldl_cons, h n hg]
      apply Bs.data_inj
      simp [Bs.data_append]
    | [e] => simp [slotOf, zOf]
    | e1 :: e2 :: r => simp [slotOf, zOf]
theorem shape_c (c : Cf) : ∀ (d : Nat) (K : Nat → Prop) (hK0 : K 0) (lev : Nat) (hd : d + lev = 13) (p : Option Addr) (M : List Pr) (W : World), HRep c K W d p M → M.length ≤ 1000 → Tab W → (∀ b, K b → b < W.heap.size) → ShC p lev (shapeT c d M) W
  | 0, K, hK0, lev, hd, p, M, W, h, hM, hT, hb => by
    obtain rfl : lev = 13 := by omega
    obtain ⟨g, s, rfl, hKg, hg, hsl⟩ := h
    obtain ⟨A, cp, rfl⟩ := hsl.form
    exact shape_leaf g _ A M.length cp W (by omega) hg
  | d + 1, K, hK0, lev, hd, p, M, W, h, hM, hT, hb => by
    obtain ⟨g, s, q, rfl, hKg, hg, hrow, hkids⟩ := h
    obtain ⟨A, nn, cp, rfl⟩ := row_form' hrow
    have hll : 12 - d = lev := by omega
    rw [hll] at hg hrow hkids
    have hGl : ∀ i, (grp (chk c lev) i M).length ≤ M.length := fun i => List.length_filter_le _ _
    have hd13 : d ≤ 13 := by omega
    have hw := shape_walk K hK0 g A nn cp (conts c lev M q) (.slice none 0 0) (fun i => partT (shapeT c d) i (grp (chk c lev) i M)) 1000000 W hb hKg lev (by omega) hg hrow hT
      (fun i x hi hx => by
        have hx' : slotOf (grp (chk c lev) i M) (q i) = some x := hx
        have hki := hkids i hi
        have hgl := hGl i
        generalize grp (chk c lev) i M = G at hx' hki hgl ⊢
        match G, hx' with
        | [e], hx' => exact .inl ⟨e.1, e.2, by simpa [slotOf] using hx'.symm, rfl⟩
        | e1 :: e2 :: r, hx' =>
          have hk := hki (by simp)
          obtain ⟨g', hq, -, -⟩ := hk.ptr
          refine .inr ⟨g', _, by rw [← hq]; simpa [slotOf] using hx'.symm, rfl, fun W' hKW hs' => ?_⟩
          rw [← hq]
          exact shape_c c d K hK0 (lev + 1) (by omega) (q i) _ W' (hk.old hKW) (by omega) (hT.old hK0 hKW) (fun b hb' => Nat.lt_of_lt_of_le (hb b hb') hs'))
      (fun i x hx => by
        have hx' : slotOf (grp (chk c lev) i M) (q i) = some x := hx
        match hG : grp (chk c lev) i M with
        | [] => rw [hG] at hx'; cases hx'
        | [e] => rw [hG] at hx'; exact ⟨e.1, e.2, none, by simpa [slotOf] using hx'.symm⟩
        | e1 :: e2 :: r => rw [hG] at hx'; exact ⟨_, _, q i, by simpa [slotOf] using hx'.symm⟩)
      (fun i => by
        have h1 := part_size (shapeT c d) (65 * (d + 1)) i (grp (chk c lev) i M) (shapeT_size c d _)
        have h2 : (42 + 65 * (d + 1)) * (grp (chk c lev) i M).length ≤ 1000 * 1000 := Nat.mul_le_mul (by omega) (by have := hGl i; omega)
        omega) (by decide)
    rw [strZ_conts c lev M q _ (fun i h => by rw [h]; rfl) 32] at hw
    have e : shapeT c (d + 1) M = (List.range 32).foldl (fun s i => s ++ partT (shapeT c d) i (grp (chk c lev) i M)) opB ++ clB := by rw [← hll]; rfl
    rw [e]
    exact hw
theorem shapeT_nil (c : Cf) (d : Nat) : shapeT c (d + 1) [] = ⟨#[40, 41]⟩ := by
  unfold shapeT
  have : ∀ n, (List.range n).foldl (fun s i => s ++ partT (shapeT c d) i (grp (chk c (12 - d)) i [])) opB = opB := by
    intro n
    induction n with
    | zero => rfl
    | succ n ih =>
      rw [List.range_succ, List.foldl_append, ih]
      rfl
  rw [this]
  rfl
set_option maxHeartbeats 1000000 in
theorem mshape_nil (y bits : Int) (n : Nat) (w : World) : Calls Tryd.prog 22 #[mpv y bits n none] w (Ret (fun v _ => v = .string ⟨#[40, 41]⟩) w) := by
  go_enter Tryd.func22, Tryd.ntmps22
  have BA : (w.alloc _).heap[w.heap.size]? = _ := blk_new w (.cells #[.int .u64 y, .int .i64 bits, .int .i64 (n : Int), .pointer none] MT)
  obtain ⟨⟨a0, a1, a2, a3⟩, -⟩ := box4 BA
  go_wp2
  go_returns
  exact ⟨_, rfl, rfl, (Below.refl _ _).alloc (Nat.le_refl _) _⟩
set_option maxHeartbeats 1000000 in
theorem mshape_some (y bits : Int) (n g : Nat) (t : ByteArray) (w : World) (h : ∀ V, Below w.heap.size w V → ShC (some ⟨g, 0, none⟩) 0 t V) : Calls Tryd.prog 22 #[mpv y bits n (some ⟨g, 0, none⟩)] w (Ret (fun v _ => v = .string t) w) := by
  have H := Lib.hid (fun V hV => (show Calls Tryd.prog 72 #[.pointer (some ⟨g, 0, none⟩), .int .i64 0] V _ from h V hV))
  clear h
  go_enter Tryd.func22, Tryd.ntmps22
  have BA : (w.alloc _).heap[w.heap.size]? = _ := blk_new w (.cells #[.int .u64 y, .int .i64 bits, .int .i64 (n : Int), .pointer (some ⟨g, 0, none⟩)] MT)
  obtain ⟨⟨a0, a1, a2, a3⟩, -⟩ := box4 BA
  go_wp2_with (go_at_call 72; ((with_reducible refine (H.out _ ((Below.refl _ _).alloc (Nat.le_refl _) _)).mono ?_); rintro e w1 ⟨v, rfl, rfl, hb1⟩))
  go_returns
  exact ⟨_, rfl, rfl, below_trans ((Below.refl _ _).alloc (Nat.le_refl _) _) hb1⟩
theorem mshape_c (c : Cf) (K : Nat → Prop) (v : Value) (L : List Pr) (w : World) (h : MapV c K w v L) (hl : L.length ≤ 1000) (hT : Tab w) : Calls Tryd.prog 22 #[v] w (Ret (fun v _ => v = .string (shapeT c 13 L)) w) := by
  have h0 : 0 < w.heap.size := block_lt (hT 0 (by decide))
  obtain ⟨p, rfl, hR, hS, hSm⟩ := h
  rcases hR with ⟨rfl, rfl⟩ | hR
  · rw [shapeT_nil]
    exact mshape_nil _ _ _ w
  · obtain ⟨g, rfl, -, -⟩ := hR.ptr
    refine mshape_some _ _ _ g _ w fun V hV => ?_
    exact shape_c c 13 (fun b => b < w.heap.size) h0 0 rfl _ L V ((hR.bound.mono fun b h => h.2).below hV) hl (hT.below hV) (fun b hb => Nat.lt_of_lt_of_le hb hV.size)
end Go.Proofs.YtnegblckbomgdaaDoor.Ht
end
section
namespace Go.Proofs.YtnegblckbomgdaaDoor.Ht
open Go Go.RowKit Go.Shelf Go.Proofs.YtnegblckbomgdaaDoor.Mem Go.Proofs.YtnegblckbomgdaaDoor.PA Go.Proofs.YtnegblckbomgdaaDoorW.PrintWords Go.Proofs.YtnegblckbomgdaaDoor.U64
abbrev confV (c : Cf) : Value := .agg #[.int .u64 (U c.1), .int .i64 c.2]
abbrev CT : TypeId := 24
set_option maxRecDepth 100000 in
set_option maxHeartbeats 4000000 in
theorem rshape_leaf (x y : Int) (A : Option Addr) (n cp : Nat) (hn : n ≤ 1000) (w : World) :
    Calls Tryd.prog 23 #[.agg #[.int .u64 x, .int .i64 y], .slice A n cp, .int .i64 13] w (Ret (fun u _ => u = .string ((⟨#[91]⟩ ++ digT n) ++ ⟨#[93]⟩)) w) := by
  have HD := Lib.hid (fun V => refdigits_c n (by omega) V)
  have hsz : (digT n).size ≤ 20 := digT_size n
  generalize digT n = t at HD hsz ⊢
  go_enter Tryd.func23, Tryd.ntmps23
  go_wp2_with (first
    | (go_at_call 73; ((with_reducible refine (HD.out _).mono ?_); rintro e w1 ⟨v, rfl, rfl, hb1⟩))
    | fail)
  go_returns
  exact ⟨_, rfl, rfl, below_trans ((Below.refl _ _).alloc (Nat.le_refl _) _) hb1⟩
def foldT (sub : List Pr → ByteArray) (ck : ByteArray → Nat) (M : List Pr) (i : Nat) : ByteArray := (List.range i).foldl (fun s i => s ++ partT sub i (grp ck i M)) opB
theorem foldT_succ (sub : List Pr → ByteArray) (ck : ByteArray → Nat) (M : List Pr) (i : Nat) : foldT sub ck M (i + 1) = foldT sub ck M i ++ partT sub i (grp ck i M) := by
  unfold foldT
  rw [List.range_succ, List.foldl_append]; rfl
def OutI (W1 : World) (sub : List Pr → ByteArray) (ck : ByteArray → Nat) (M : List Pr) (k : Nat) (v7 v19 : Value) (wr : World) : Prop :=
  ∃ i : Nat, i + k = 32 ∧ v19 = .int .i64 (i : Int) ∧ v7 = .string (foldT sub ck M i) ∧ Below W1.heap.size W1 wr
def InI (wr0 : World) (ck : ByteArray → Nat) (M : List Pr) (i n k : Nat) (v9 v24 : Value) (wr : World) : Prop :=
  ∃ j : Nat, j + k = n ∧ v24 = .int .i64 (j : Int) ∧ wr.ownsRow wr0.heap.size TS 1 v9 (grp ck i (M.take j)).length (ksV (grp ck i (M.take j))) ∧ Below wr0.heap.size wr0 wr
theorem cat_nil (s : ByteArray) : s ++ (⟨#[]⟩ : ByteArray) = s := by
  apply Bs.data_inj
  simp [Bs.data_append]
set_option maxRecDepth 100000 in
set_option maxHeartbeats 8000000 in
theorem rshape_node (c : Cf) (lev : Nat) (hlev : lev < 13) (M : List Pr) (hSm : Sm M) (hM : M.length ≤ 1000) (sub : List Pr → ByteArray) (S : Nat) (hS : S ≤ 1000000) (hp : ∀ i, (partT sub i (grp (chk c lev) i M)).size ≤ S) (K : Nat → Prop) (v : Value) (w : World) (h : SlV K w v (ksV M))
    (hsub : ∀ i, 2 ≤ (grp (chk c lev) i M).length → ∀ K' u V, SlV K' V u (ksV (grp (chk c lev) i M)) → Calls Tryd.prog 23 #[confV c, u, .int .i64 ((lev : Int) + 1)] V (Ret (fun u _ => u = .string (sub (grp (chk c lev) i M))) V)) :
    Calls Tryd.prog 23 #[confV c, v, .int .i64 (lev : Int)] w (Ret (fun u _ => u = .string (foldT sub (chk c lev) M 32 ++ clB)) w) := by
  obtain ⟨i0, hi, hz0, hz1, hz2⟩ := info_parts info_str
  obtain ⟨A, cp, rfl⟩ := SlV.form' h
  rw [ksV_length] at h ⊢
  have hl13 : ¬ (lev : Int) = 13 := by omega
  have hl13b : ((lev : Int) == 13) = false := by simp [hl13]
  have hlev1 : IntKind.i64.wrap ((lev : Int) + 1) = (lev : Int) + 1 := by rw [IntKind.wrap_i64]; omega
  have hfs : ∀ i, (foldT sub (chk c lev) M i).size ≤ 1 + i * S := by
    intro i
    induction i with
    | zero => simp [foldT]; exact Nat.le_refl 1
    | succ i ih =>
      rw [foldT_succ, size_cat, Nat.add_mul, Nat.one_mul]
      have := hp i
      omega
  have HFS := Lib.hid hfs; have HP := Lib.hid hp; have HSUB := Lib.hid hsub; have HH := Lib.hid h; have HSM := Lib.hid hSm
  obtain ⟨n, hn⟩ : ∃ n, n = M.length := ⟨_, rfl⟩
  rw [← hn] at HH ⊢
  have HN := Lib.hid hn
  have hn3 : n ≤ 1000 := by omega
  have hnI : (n : Int) ≤ 1000 := by omega
  obtain ⟨seed, bits⟩ := c
  have HSUM := Lib.hid (fun (s : ByteArray) (hs : s.size ≤ 140737488351232) V => refsum_c (seed, bits) s hs V)
  have HCHK := Lib.hid (fun (s : ByteArray) V => refchunk_c (seed, bits) s lev (by omega) V)
  clear hfs hp hsub h hSm hn
  obtain ⟨ck, hck⟩ : ∃ ck, ck = chk (seed, bits) lev := ⟨_, rfl⟩
  obtain ⟨hs, hhs⟩ : ∃ hs, hs = fun s => U (hsh (seed, bits) s) := ⟨_, rfl⟩
  have HSUM : Hid (∀ (s : ByteArray), s.size ≤ 140737488351232 → ∀ V, Calls Tryd.prog 34 #[.agg #[.int .u64 (U seed), .int .i64 bits], .string s] V (Ret (fun v _ => v = .int .u64 (hs s)) V)) := by rw [hhs]; exact HSUM
  have HCHK : Hid (∀ (s : ByteArray) V, Calls Tryd.prog 74 #[.int .u64 (hs s), .int .i64 (lev : Int)] V (Ret (fun v _ => v = .int .i64 (ck s : Int)) V)) := by rw [hhs, hck]; exact HCHK
  rw [← hck] at HFS HP HSUB ⊢
  have HSUB : Hid (∀ i, 2 ≤ (grp ck i M).length → ∀ K' u V, SlV K' V u (ksV (grp ck i M)) → Calls Tryd.prog 23 #[.agg #[.int .u64 (U seed), .int .i64 bits], u, .int .i64 ((lev : Int) + 1)] V (Ret (fun u _ => u = .string (sub (grp ck i M))) V)) := HSUB
  show Calls Tryd.prog 23 #[.agg #[.int .u64 (U seed), .int .i64 bits], .slice A n cp, .int .i64 (lev : Int)] w _
  generalize U seed = x at *
  clear hck hhs
  have B1 := blk_new w (.cells #[.int .u64 x, .int .i64 bits] CT)
  have hB1 := (Below.refl w.heap.size w).alloc (Nat.le_refl _) (.cells #[.int .u64 x, .int .i64 bits] CT)
  obtain ⟨⟨b0, b1⟩, -⟩ := box2 B1
  have HB1 := Lib.hid B1; have HBB := Lib.hid hB1
  clear B1 hB1
  go_enter Tryd.func23, Tryd.ntmps23
  go_upto_region 1 with fail
  generalize w.alloc (.cells #[.int .u64 x, .int .i64 bits] CT) = W1 at HB1 HBB b0 b1 ⊢
  go_wp2_with fail
  go_loopg [7, 19] 32 (fun k v7 v19 wr => Aside (OutI W1 sub ck M k v7 v19 wr))
  case atStart =>
    show OutI _ _ _ _ _ _ _ _
    exact ⟨0, rfl, rfl, rfl, Below.refl _ _⟩
  case round =>
    obtain ⟨i, hik, rfl, rfl, hB⟩ := hrel.out
    clear hrel
    obtain ⟨wo, rfl⟩ : ∃ wo, wo = wr := ⟨_, rfl⟩
    by_cases hlt : i < 32
    · have hltI : (i : Int) < 32 := by omega
      have HC0 := Lib.hid (blk_below HB1.out hB)
      have HB := Lib.hid hB
      obtain ⟨g1, rfl⟩ : ∃ g, gk = g + 1 := ⟨gk - 1, by omega⟩
      have hss := HFS.out i
      have hi32 : i * S ≤ 32 * S := Nat.mul_le_mul_right S (by omega)
      have hss2 : (foldT sub ck M i).size ≤ 40000000 := by omega
      have HNX := Lib.hid (foldT_succ sub ck M i)
      clear hss hi32 hB
      generalize foldT sub ck M i = s at hss2 HNX
      go_wp2_with fail
      go_loopg [9, 24] n (fun k v9 v24 wr2 => Aside (InI wo ck M i n k v9 v24 wr2))
      case atStart =>
        show InI _ _ _ _ _ _ _ _ _
        exact ⟨0, by omega, rfl, World.ownsRow_nil _ _ _ _, Below.refl _ _⟩
      case round =>
        obtain ⟨j, hjn, rfl, hr, hB2⟩ := hrel.out
        clear hrel
        obtain ⟨Ag, cg, rfl⟩ := row_slice hr
        obtain ⟨⟨d0, d1⟩, -⟩ := box2 (blk_below HC0.out hB2)
        by_cases hjl : j < n
        · have hjI : (j : Int) < (n : Int) := by omega
          obtain ⟨⟨ek, ex⟩, he⟩ : ∃ e, M[j]? = some e := ⟨_, List.getElem?_eq_getElem (by have := HN.out; omega)⟩
          obtain ⟨ad, rfl, hc⟩ := HH.out.addr (by rw [ksV_length, ← HN.out]; omega)
          have k0 := cell_below (cell_below (hc j (.string ek) (by simp [ksV, he])) (below_trans HBB.out HB.out)) hB2
          have hez : ek.size ≤ 140737488351232 := Nat.le_trans (HSM.out (ek, ex) (List.mem_of_getElem? he)) (by decide)
          have HS1 := Lib.hid (HSUM.out ek hez); have HC1 := Lib.hid (HCHK.out ek)
          have hgm : (grp ck i (M.take j)).length ≤ 1000 := Nat.le_trans (List.length_filter_le _ _) (by rw [List.length_take]; omega)
          have hgs : grp ck i (M.take (j + 1)) = if ck ek = i then grp ck i (M.take j) ++ [(ek, ex)] else grp ck i (M.take j) := by
            rw [List.take_add_one, he]
            by_cases hh : ck ek = i <;> simp [grp, List.filter_append, hh]
          generalize hs ek = y at HS1 HC1
          obtain ⟨z, hz⟩ : ∃ z, z = ck ek := ⟨_, rfl⟩
          rw [← hz] at HC1 hgs
          generalize grp ck i (M.take j) = G at *
          have HR := Lib.hid hr; have HB2 := Lib.hid hB2; have HGS := Lib.hid hgs
          obtain ⟨g2, rfl⟩ : ∃ g, gk = g + 1 := ⟨gk - 1, by omega⟩
          clear hr hB2 hc he hgs hz hez
          by_cases hzi : z = i
          · subst hzi
            have hm63 : G.length + 1 ≤ maxLen := by unfold maxLen; omega
            have hby : (G.length + 1) * 16 ≤ 140737488355328 := by omega
            go_wp2_with (first
              | (go_at_call 34; ((with_reducible refine (HS1.out _).mono ?_); rintro e w3 ⟨v, rfl, rfl, hb3⟩))
              | (go_at_call 74; ((with_reducible refine (HC1.out _).mono ?_); rintro e w4 ⟨v, rfl, rfl, hb4⟩; have HB4 := Lib.hid (below_trans HB2.out (below_trans hb3 hb4)); have HR4 := Lib.hid (own_move HR.out fun k hk => (below_trans hb3 hb4).block k (own_lt HR.out k hk)); have hw4 := HB4.out.size; clear hb3 hb4))
              | (at_builtin; refine wpList_append_own _ rfl _ _ 32 rfl wo.heap.size TS i0 _ 1 16 Tryd.underlying32 hi hz0 hz1 hz2 rfl (by decide) _ _ _ rfl (HR4.out.alloc _) ⟨w4.heap.size, 0, none⟩ 1 1 [.string ek] rfl ?qc1 ?qc2 ?qc3 ?qc4 ?qc5 ?qc6 ?_)
              | fail)
            case qc1 => rfl
            case qc2 =>
              intro q u hq
              rw [add_head, blk_cell (blk_new w4 (.cells #[.string ek] TS))]
              simpa using hq
            case qc3 => intro u hu; simp at hu; subst hu; rfl
            case qc4 => exact hm63
            case qc5 => exact hby
            case qc6 => rw [World.size_alloc]; omega
            intro v' w5 hown' hgrow hnil
            have HO5 := Lib.hid hown'
            have HB5 := Lib.hid (below_grown (HB4.out.alloc hw4 _) hgrow (HR4.out.alloc _) (Nat.le_refl _))
            obtain ⟨g', cap', rfl⟩ := ownsRow_succ hown'
            clear hown' hgrow hnil
            go_wp2_with fail
            go_roundg g2
            case measure => omega
            case rel =>
              show InI _ _ _ _ _ _ _ _ _
              exact ⟨j + 1, by omega, by first | rfl | (push_cast; rfl), by rw [HGS.out]; simp only [↓reduceIte]; rw [List.length_append, ksV_snoc]; exact HO5.out, HB5.out⟩
          · have hzI : ¬ (z : Int) = (i : Int) := by omega
            go_wp2_with (first
              | (go_at_call 34; ((with_reducible refine (HS1.out _).mono ?_); rintro e w3 ⟨v, rfl, rfl, hb3⟩))
              | (go_at_call 74; ((with_reducible refine (HC1.out _).mono ?_); rintro e w4 ⟨v, rfl, rfl, hb4⟩; have HB4 := Lib.hid (below_trans HB2.out (below_trans hb3 hb4)); have HR4 := Lib.hid (own_move HR.out fun k hk => (below_trans hb3 hb4).block k (own_lt HR.out k hk)); clear hb3 hb4))
              | fail)
            go_roundg g2
            case measure => omega
            case rel =>
              show InI _ _ _ _ _ _ _ _ _
              exact ⟨j + 1, by omega, by first | rfl | (push_cast; rfl), by rw [HGS.out, if_neg hzi]; exact HR4.out, HB4.out⟩
        · have hjn2 : j = n := by omega
          have hG : grp ck i (M.take j) = grp ck i M := by rw [List.take_of_length_le (by rw [hjn2, HN.out]; exact Nat.le_refl _)]
          rw [hG] at hr ⊢
          have hpz := HP.out i
          have HSB : 2 ≤ (grp ck i M).length → Hid (∀ V, Below wr.heap.size wr V → Calls Tryd.prog 23 #[.agg #[.int .u64 x, .int .i64 bits], .slice Ag (grp ck i M).length cg, .int .i64 ((lev : Int) + 1)] V (Ret (fun u _ => u = .string (sub (grp ck i M))) V)) :=
            fun h2 => Lib.hid fun V hb => HSUB.out i h2 _ _ V ((SlV.of_row hr (ksV_one _)).below hb)
          have HD := Lib.hid (fun V => refdigits_c i (by omega) V)
          have hdz := digT_size i
          have HB2 := Lib.hid (below_trans HB.out hB2)
          clear hr hB2 hG
          have hnx := HNX.out
          clear HNX
          generalize grp ck i M = G at hpz HSB hnx ⊢
          match G, hpz, HSB, hnx with
          | [], hpz, HSB, hnx =>
            have HNX : Hid (foldT sub ck M (i + 1) = s) := Lib.hid (by rw [hnx]; exact cat_nil s)
            clear hnx HSB HD
            go_wp2_with fail
            go_roundg g1
            case measure => omega
            case rel =>
              show OutI _ _ _ _ _ _ _ _
              exact ⟨i + 1, by omega, by first | rfl | (push_cast; rfl), by rw [HNX.out], HB2.out⟩
          | [e], hpz, HSB, hnx =>
            have HNX : Hid (foldT sub ck M (i + 1) = s ++ (digT i ++ dotB)) := Lib.hid hnx
            clear hnx HSB
            generalize digT i = dt at HD hdz HNX
            have hdz2 : (dt ++ dotB).size ≤ 21 := by rw [size_cat]; have : dotB.size = 1 := rfl; omega
            go_wp2_with (first
              | (go_at_call 73; ((with_reducible refine (HD.out _).mono ?_); rintro e w5 ⟨v, rfl, rfl, hb5⟩; have HB5 := Lib.hid (below_trans HB2.out hb5)))
              | fail)
            go_roundg g1
            case measure => omega
            case rel =>
              show OutI _ _ _ _ _ _ _ _
              exact ⟨i + 1, by omega, by first | rfl | (push_cast; rfl), by rw [HNX.out], HB5.out⟩
          | e :: f :: r, hpz, HSB, hnx =>
            have HNX : Hid (foldT sub ck M (i + 1) = s ++ (digT i ++ sub (e :: f :: r))) := Lib.hid hnx
            have hpz2 : (digT i ++ sub (e :: f :: r)).size ≤ S := hpz
            have HSB' := HSB (by simp)
            obtain ⟨m, hm⟩ : ∃ m, m = (e :: f :: r).length := ⟨_, rfl⟩
            have hm2 : 2 ≤ m := by rw [hm]; simp
            rw [← hm] at HSB' ⊢
            clear hnx HSB hpz hm
            generalize digT i = dt at HD hdz HNX hpz2
            generalize sub (e :: f :: r) = st at HSB' HNX hpz2
            have hst : dt.size + st.size ≤ 1000000 := by rw [size_cat] at hpz2; omega
            have hq1 : ¬ 9223372036854775807 < dt.size + st.size := by omega
            have hq2 : ¬ 9223372036854775807 < s.size + (dt.size + st.size) := by omega
            have hq3 : ¬ 9223372036854775807 < s.size + (dt ++ st).size := by rw [size_cat]; omega
            have hm0 : ((m : Int) == 0) = false := by simp; omega
            have hm1 : ((m : Int) == 1) = false := by simp; omega
            have hm0' : ¬ (m : Int) = 0 := by omega
            have hm1' : ¬ (m : Int) = 1 := by omega
            go_wp2_with fail
            go_region_held3 (fun w' => w'.cell? ⟨w.heap.size, 0, none⟩ = some (.int .u64 x) ∧ w'.cell? ⟨w.heap.size, 1, none⟩ = some (.int .i64 bits))
              ((refine ⟨?_, ?_⟩ <;> first | (with_reducible assumption) | (with_reducible exact cell_below d0 (by assumption)) | (with_reducible exact cell_below d1 (by assumption)) | (go_keep; done)))
              (first
                | (go_at_call 73; (with_reducible refine (HD.out _).mono ?_); rintro e w5 ⟨v, rfl, rfl, hb5⟩; have hb5 := below_trans (w1 := World.drew _) (Below.refl _ _).drew hb5)
                | (go_at_call 23; (with_reducible refine (HSB'.out _ (by first | exact hb5 | exact (Below.refl _ _).drew)).mono ?_); rintro e w6 ⟨v, rfl, rfl, hb6⟩; have hb6 := below_trans hb5 hb6)
                | fail)
            go_wp2_with fail
            go_roundg g1
            case measure => omega
            case rel =>
              show OutI _ _ _ _ _ _ _ _
              exact ⟨i + 1, by omega, by first | rfl | (push_cast; rfl), by rw [HNX.out], below_trans HB2.out hb6⟩
    · have hi32 : i = 32 := by omega
      subst hi32
      have hss := HFS.out 32
      have HB3 := Lib.hid (below_trans HBB.out hB)
      clear hB
      have hss2 : (foldT sub ck M 32).size ≤ 40000000 := by omega
      obtain ⟨s, hse⟩ : ∃ s, s = foldT sub ck M 32 := ⟨_, rfl⟩
      rw [← hse] at hss2 ⊢
      have HSE := Lib.hid hse
      clear hse hik hss
      go_wp2_with fail
      go_returns
      exact ⟨_, rfl, (by show _ = Value.string (foldT sub ck M 32 ++ clB); rw [← HSE.out]; rfl), HB3.out⟩
theorem refshape_c (c : Cf) : ∀ (d lev : Nat), d + lev = 13 → ∀ (M : List Pr) (K : Nat → Prop) (v : Value) (w : World), SlV K w v (ksV M) → Sm M → M.length ≤ 1000 →
    Calls Tryd.prog 23 #[confV c, v, .int .i64 (lev : Int)] w (Ret (fun u _ => u = .string (shapeT c d M)) w)
  | 0, lev, hd, M, K, v, w, h, hSm, hM => by
    obtain rfl : lev = 13 := by omega
    obtain ⟨A, cp, rfl⟩ := SlV.form' h
    rw [ksV_length]
    exact rshape_leaf _ _ A M.length cp hM w
  | d + 1, lev, hd, M, K, v, w, h, hSm, hM => by
    have hll : 12 - d = lev := by omega
    have hw := rshape_node c lev (by omega) M hSm hM (shapeT c d) 1000000 (Nat.le_refl _) (fun i => by
        have h1 := part_size (shapeT c d) (65 * (d + 1)) i (grp (chk c lev) i M) (shapeT_size c d _)
        have h2 : (42 + 65 * (d + 1)) * (grp (chk c lev) i M).length ≤ 1000 * 1000 := Nat.mul_le_mul (by omega) (Nat.le_trans (List.length_filter_le _ _) hM)
        omega) K v w h (fun i h2 K' u V hu => by
        have h3 := refshape_c c d (lev + 1) (by omega) (grp (chk c lev) i M) K' u V hu (hSm.grp _ _) (Nat.le_trans (List.length_filter_le _ _) hM)
        rw [show ((lev : Int) + 1) = ((lev + 1 : Nat) : Int) by omega]
        exact h3)
    have e : shapeT c (d + 1) M = foldT (shapeT c d) (chk c lev) M 32 ++ clB := by rw [← hll]; rfl
    rw [e]
    exact hw
end Go.Proofs.YtnegblckbomgdaaDoor.Ht
end
section
namespace Go.Proofs.YtnegblckbomgdaaDoor.Ht
open Go Go.RowKit Go.Shelf Go.Proofs.YtnegblckbomgdaaDoor.Mem Go.Proofs.YtnegblckbomgdaaDoor.PA Go.Proofs.YtnegblckbomgdaaDoorW.PrintWords Go.Proofs.YtnegblckbomgdaaDoor.U64
theorem mapv_far {c : Cf} {K : Nat → Prop} {w : World} {v : Value} {L : List Pr} (h : MapV c K w v L) (g i : Nat) (u : Value) (hn : ¬ K g) : MapV c K (w.setCell ⟨g, i, none⟩ u) v L :=
  h.keep (fun _ h _ => h) fun b hb _ => Below.heap_setCell _ _ _ _ (fun e => hn (by have e' : b = g := e; rw [← e']; exact hb))
theorem refv_far {K : Nat → Prop} {w : World} {v : Value} {L : List Pr} (h : RefV K w v L) (g i : Nat) (u : Value) (hn : ¬ K g) : RefV K (w.setCell ⟨g, i, none⟩ u) v L :=
  h.keep fun b hb _ => Below.heap_setCell _ _ _ _ (fun e => hn (by have e' : b = g := e; rw [← e']; exact hb))
abbrev put4w (w : World) (g : Nat) (a b c d : Value) : World := (((w.setCell ⟨g, 0, none⟩ a).setCell ⟨g, 1, none⟩ b).setCell ⟨g, 2, none⟩ c).setCell ⟨g, 3, none⟩ d
abbrev OT : TypeId := 37
structure Op1 where
  k : ByteArray
  x : Int
  cut : Bool
def doL (L : List Pr) (o : Op1) : List Pr := if o.cut = true then del L o.k else ins L o.k o.x
abbrev opV (o : Op1) : Value := .agg #[.string o.k, .int .i64 o.x, .bool o.cut]
set_option maxRecDepth 100000 in
set_option maxHeartbeats 4000000 in
theorem does_w (c : Cf) (K : Nat → Prop) (L : List Pr) (k : ByteArray) (x : Int) (cut : Bool) (y bits : Int) (n : Nat) (p : Option Addr) (w : World) (L' : List Pr) (hK : ∀ b, K b → b < w.heap.size)
    (hC : cut = true → ∀ V, Below w.heap.size w V → Calls Tryd.prog 28 #[mpv y bits n p, .string k] V (Ret (fun v' w' => MapV c (New K V) w' v' L') V))
    (hS : cut = false → ∀ V, Below w.heap.size w V → Calls Tryd.prog 25 #[mpv y bits n p, .string k, .int .i64 x] V (Ret (fun v' w' => MapV c (New K V) w' v' L') V)) :
    Calls Tryd.prog 20 #[mpv y bits n p, .agg #[.string k, .int .i64 x, .bool cut]] w (Ret (fun v' w' => MapV c (New K w) w' v' L') w) := by
  have HKK := Lib.hid hK
  have hb := (((Below.refl w.heap.size w).alloc (Nat.le_refl _) (.cells #[.int .u64 y, .int .i64 bits, .int .i64 (n : Int), .pointer p] MT)).alloc (by simp) (.cells #[.string k, .int .i64 x, .bool cut] OT)).alloc (by simp; omega) (.cells #[.int .u64 0, .int .i64 0, .int .i64 0, .pointer none] MT)
  have B2 := blk_alloc (blk_alloc (blk_new w (.cells #[.int .u64 y, .int .i64 bits, .int .i64 (n : Int), .pointer p] MT)) (.cells #[.string k, .int .i64 x, .bool cut] OT)) (.cells #[.int .u64 0, .int .i64 0, .int .i64 0, .pointer none] MT)
  have B3 := blk_alloc (heap_k1 w (.cells #[.int .u64 y, .int .i64 bits, .int .i64 (n : Int), .pointer p] MT) (.cells #[.string k, .int .i64 x, .bool cut] OT)) (.cells #[.int .u64 0, .int .i64 0, .int .i64 0, .pointer none] MT)
  have B4 := heap_k2 w (.cells #[.int .u64 y, .int .i64 bits, .int .i64 (n : Int), .pointer p] MT) (.cells #[.string k, .int .i64 x, .bool cut] OT) (.cells #[.int .u64 0, .int .i64 0, .int .i64 0, .pointer none] MT)
  have hsz : (((w.alloc (.cells #[.int .u64 y, .int .i64 bits, .int .i64 (n : Int), .pointer p] MT)).alloc (.cells #[.string k, .int .i64 x, .bool cut] OT)).alloc (.cells #[.int .u64 0, .int .i64 0, .int .i64 0, .pointer none] MT)).heap.size = w.heap.size + 1 + 1 + 1 := by simp
  obtain ⟨⟨a0, a1, a2, a3⟩, -⟩ := box4 B2
  obtain ⟨⟨o0, o1, o2⟩, -⟩ := box3 B3
  have HB := Lib.hid hb; have HB4 := Lib.hid B4; have HSZ := Lib.hid hsz
  clear hb B2 B3 B4 hsz hK
  have hfin : ∀ (V : World) (w1 : World) (v' : Value), V.heap.size = w.heap.size + 1 + 1 + 1 → Below w.heap.size w V → V.heap[w.heap.size + 1 + 1]? = some (.cells #[.int .u64 0, .int .i64 0, .int .i64 0, .pointer none] MT (0, 0)) → MapV c (New K V) w1 v' L' → Below V.heap.size V w1 →
      ∃ (n' : Nat) (p' : Option Addr), v' = mapv c n' p' ∧ w1.heap[w.heap.size + 1 + 1]? = some (.cells #[.int .u64 0, .int .i64 0, .int .i64 0, .pointer none] MT (0, 0)) ∧ MapV c (New K w) (put4w w1 (w.heap.size + 1 + 1) (.int .u64 (U c.1)) (.int .i64 c.2) (.int .i64 (n' : Int)) (.pointer p')) (mapv c n' p') L' ∧ Below w.heap.size w (put4w w1 (w.heap.size + 1 + 1) (.int .u64 (U c.1)) (.int .i64 c.2) (.int .i64 (n' : Int)) (.pointer p')) := by
    intro V w1 v' hs hwV hV4 hv hb
    have hv0 := hv
    obtain ⟨p', rfl, -⟩ := hv
    have hn : ¬ New K V (w.heap.size + 1 + 1) := fun h => h.elim (fun h => by have := HKK.out _ h; omega) (fun h => by omega)
    refine ⟨_, p', rfl, blk_below hV4 hb, (mapv_far (mapv_far (mapv_far (mapv_far hv0 _ 0 _ hn) _ 1 _ hn) _ 2 _ hn) _ 3 _ hn).mono fun b h => h.elim Or.inl fun h => Or.inr (by omega), ?_⟩
    have hh := below_trans hwV hb
    exact (((hh.setCell (p := ⟨w.heap.size + 1 + 1, 0, none⟩) (by show w.heap.size ≤ w.heap.size + 1 + 1; omega) _).setCell (p := ⟨w.heap.size + 1 + 1, 1, none⟩) (by show w.heap.size ≤ w.heap.size + 1 + 1; omega) _).setCell (p := ⟨w.heap.size + 1 + 1, 2, none⟩) (by show w.heap.size ≤ w.heap.size + 1 + 1; omega) _).setCell (p := ⟨w.heap.size + 1 + 1, 3, none⟩) (by show w.heap.size ≤ w.heap.size + 1 + 1; omega) _
  have HF := Lib.hid hfin
  clear hfin
  cases cut with
  | true =>
    have HC := Lib.hid (hC rfl); clear hC hS
    go_enter Tryd.func20, Tryd.ntmps20
    go_upto_region 1 with fail
    generalize ((w.alloc (.cells #[.int .u64 y, .int .i64 bits, .int .i64 (n : Int), .pointer p] MT)).alloc (.cells #[.string k, .int .i64 x, .bool true] OT)).alloc (.cells #[.int .u64 0, .int .i64 0, .int .i64 0, .pointer none] MT) = V at *
    go_wp2_with (first
      | (go_at_call 28; ((with_reducible refine (HC.out _ HB.out).mono ?_); rintro e w1 ⟨v', rfl, hv', hb1⟩; have hf := HF.out _ _ _ HSZ.out HB.out HB4.out hv' hb1; obtain ⟨n', p', rfl, hx4, hm, hbb⟩ := hf; obtain ⟨⟨e0, e1, e2, e3⟩, f0, f1, f2, f3⟩ := box4 hx4; have HX := Lib.hid hx4; have HM := Lib.hid hm; have HBB := Lib.hid hbb; clear hv' hb1 hx4 hm hbb))
      | fail)
    refine bodyPost_ret (results_c1 rfl _ _ (w.heap.size + 1 + 1) MT #[.int .u64 (U c.1), .int .i64 c.2, .int .i64 (n' : Int), .pointer p'] (0, 0) _ rfl (put4 HX.out) Tryd.underlying30 rfl (by kernel_rfl)) rfl ?_
    exact ⟨_, rfl, HM.out, HBB.out⟩
  | false =>
    have HC := Lib.hid (hS rfl); clear hC hS
    go_enter Tryd.func20, Tryd.ntmps20
    go_upto_region 1 with fail
    generalize ((w.alloc (.cells #[.int .u64 y, .int .i64 bits, .int .i64 (n : Int), .pointer p] MT)).alloc (.cells #[.string k, .int .i64 x, .bool false] OT)).alloc (.cells #[.int .u64 0, .int .i64 0, .int .i64 0, .pointer none] MT) = V at *
    go_wp2_with (first
      | (go_at_call 25; ((with_reducible refine (HC.out _ HB.out).mono ?_); rintro e w1 ⟨v', rfl, hv', hb1⟩; have hf := HF.out _ _ _ HSZ.out HB.out HB4.out hv' hb1; obtain ⟨n', p', rfl, hx4, hm, hbb⟩ := hf; obtain ⟨⟨e0, e1, e2, e3⟩, f0, f1, f2, f3⟩ := box4 hx4; have HX := Lib.hid hx4; have HM := Lib.hid hm; have HBB := Lib.hid hbb; clear hv' hb1 hx4 hm hbb))
      | fail)
    refine bodyPost_ret (results_c1 rfl _ _ (w.heap.size + 1 + 1) MT #[.int .u64 (U c.1), .int .i64 c.2, .int .i64 (n' : Int), .pointer p'] (0, 0) _ rfl (put4 HX.out) Tryd.underlying30 rfl (by kernel_rfl)) rfl ?_
    exact ⟨_, rfl, HM.out, HBB.out⟩
set_option maxRecDepth 100000 in
set_option maxHeartbeats 4000000 in
theorem should_w (K : Nat → Prop) (k : ByteArray) (x : Int) (cut : Bool) (A1 A2 : Option Addr) (n1 n2 c1 c2 : Nat) (w : World) (L' : List Pr)
    (hC : cut = true → ∀ V, Below w.heap.size w V → Calls Tryd.prog 70 #[(.agg #[.slice A1 n1 c1, .slice A2 n2 c2]), .string k] V (Ret (fun v' w' => RefV (Fresh V) w' v' L') V))
    (hS : cut = false → ∀ V, Below w.heap.size w V → Calls Tryd.prog 71 #[(.agg #[.slice A1 n1 c1, .slice A2 n2 c2]), .string k, .int .i64 x] V (Ret (fun v' w' => RefV (Fresh V) w' v' L') V)) :
    Calls Tryd.prog 21 #[(.agg #[.slice A1 n1 c1, .slice A2 n2 c2]), .agg #[.string k, .int .i64 x, .bool cut]] w (Ret (fun v' w' => RefV (Fresh w) w' v' L') w) := by
  have hb := (((Below.refl w.heap.size w).alloc (Nat.le_refl _) (.cells #[.slice A1 n1 c1, .slice A2 n2 c2] RT)).alloc (by simp) (.cells #[.string k, .int .i64 x, .bool cut] OT)).alloc (by simp; omega) (.cells #[.slice none 0 0, .slice none 0 0] RT)
  have B2 := blk_alloc (blk_alloc (blk_new w (.cells #[.slice A1 n1 c1, .slice A2 n2 c2] RT)) (.cells #[.string k, .int .i64 x, .bool cut] OT)) (.cells #[.slice none 0 0, .slice none 0 0] RT)
  have B3 := blk_alloc (heap_k1 w (.cells #[.slice A1 n1 c1, .slice A2 n2 c2] RT) (.cells #[.string k, .int .i64 x, .bool cut] OT)) (.cells #[.slice none 0 0, .slice none 0 0] RT)
  have B4 := heap_k2 w (.cells #[.slice A1 n1 c1, .slice A2 n2 c2] RT) (.cells #[.string k, .int .i64 x, .bool cut] OT) (.cells #[.slice none 0 0, .slice none 0 0] RT)
  have hsz : (((w.alloc (.cells #[.slice A1 n1 c1, .slice A2 n2 c2] RT)).alloc (.cells #[.string k, .int .i64 x, .bool cut] OT)).alloc (.cells #[.slice none 0 0, .slice none 0 0] RT)).heap.size = w.heap.size + 1 + 1 + 1 := by simp
  obtain ⟨⟨a0, a1⟩, -⟩ := box2 B2
  obtain ⟨⟨o0, o1, o2⟩, -⟩ := box3 B3
  have HB := Lib.hid hb; have HB4 := Lib.hid B4; have HSZ := Lib.hid hsz
  clear hb B2 B3 B4 hsz
  have hfin : ∀ (V : World) (w1 : World) (v' : Value), V.heap.size = w.heap.size + 1 + 1 + 1 → Below w.heap.size w V → V.heap[w.heap.size + 1 + 1]? = some (.cells #[.slice none 0 0, .slice none 0 0] RT (0, 0)) → RefV (Fresh V) w1 v' L' → Below V.heap.size V w1 →
      ∃ (A3 A4 : Option Addr) (n3 n4 c3 c4 : Nat), v' = .agg #[.slice A3 n3 c3, .slice A4 n4 c4] ∧ w1.heap[w.heap.size + 1 + 1]? = some (.cells #[.slice none 0 0, .slice none 0 0] RT (0, 0)) ∧ RefV (Fresh w) ((w1.setCell ⟨w.heap.size + 1 + 1, 0, none⟩ (.slice A3 n3 c3)).setCell ⟨w.heap.size + 1 + 1, 1, none⟩ (.slice A4 n4 c4)) (.agg #[.slice A3 n3 c3, .slice A4 n4 c4]) L' ∧ Below w.heap.size w ((w1.setCell ⟨w.heap.size + 1 + 1, 0, none⟩ (.slice A3 n3 c3)).setCell ⟨w.heap.size + 1 + 1, 1, none⟩ (.slice A4 n4 c4)) := by
    intro V w1 v' hs hwV hV4 hv hb
    have hv0 := hv
    obtain ⟨s', t', rfl, h1, h2⟩ := hv
    obtain ⟨A3, n3, c3, rfl⟩ := h1.form
    obtain ⟨A4, n4, c4, rfl⟩ := h2.form
    have hn : ¬ Fresh V (w.heap.size + 1 + 1) := fun h => by unfold Fresh at h; omega
    refine ⟨A3, A4, n3, n4, c3, c4, rfl, blk_below hV4 hb, (refv_far (refv_far hv0 _ 0 _ hn) _ 1 _ hn).mono fun b h => (by unfold Fresh at h ⊢; omega), ?_⟩
    have hh := below_trans hwV hb
    exact (hh.setCell (p := ⟨w.heap.size + 1 + 1, 0, none⟩) (by show w.heap.size ≤ w.heap.size + 1 + 1; omega) _).setCell (p := ⟨w.heap.size + 1 + 1, 1, none⟩) (by show w.heap.size ≤ w.heap.size + 1 + 1; omega) _
  have HF := Lib.hid hfin
  clear hfin
  cases cut with
  | true =>
    have HC := Lib.hid (hC rfl); clear hC hS
    go_enter Tryd.func21, Tryd.ntmps21
    go_upto_region 1 with fail
    generalize ((w.alloc (.cells #[.slice A1 n1 c1, .slice A2 n2 c2] RT)).alloc (.cells #[.string k, .int .i64 x, .bool true] OT)).alloc (.cells #[.slice none 0 0, .slice none 0 0] RT) = V at *
    go_wp2_with (first
      | (go_at_call 70; ((with_reducible refine (HC.out _ HB.out).mono ?_); rintro e w1 ⟨v', rfl, hv', hb1⟩; have hf := HF.out _ _ _ HSZ.out HB.out HB4.out hv' hb1; obtain ⟨A3, A4, n3, n4, c3, c4, rfl, hx4, hm, hbb⟩ := hf; obtain ⟨⟨e0, e1⟩, f0, f1⟩ := box2 hx4; have HX := Lib.hid hx4; have HM := Lib.hid hm; have HBB := Lib.hid hbb; clear hv' hb1 hx4 hm hbb))
      | fail)
    refine bodyPost_ret (results_c1 rfl _ _ (w.heap.size + 1 + 1) RT #[.slice A3 n3 c3, .slice A4 n4 c4] (0, 0) _ rfl (put2 HX.out) Tryd.underlying35 rfl (by kernel_rfl)) rfl ?_
    exact ⟨_, rfl, HM.out, HBB.out⟩
  | false =>
    have HC := Lib.hid (hS rfl); clear hC hS
    go_enter Tryd.func21, Tryd.ntmps21
    go_upto_region 1 with fail
    generalize ((w.alloc (.cells #[.slice A1 n1 c1, .slice A2 n2 c2] RT)).alloc (.cells #[.string k, .int .i64 x, .bool false] OT)).alloc (.cells #[.slice none 0 0, .slice none 0 0] RT) = V at *
    go_wp2_with (first
      | (go_at_call 71; ((with_reducible refine (HC.out _ HB.out).mono ?_); rintro e w1 ⟨v', rfl, hv', hb1⟩; have hf := HF.out _ _ _ HSZ.out HB.out HB4.out hv' hb1; obtain ⟨A3, A4, n3, n4, c3, c4, rfl, hx4, hm, hbb⟩ := hf; obtain ⟨⟨e0, e1⟩, f0, f1⟩ := box2 hx4; have HX := Lib.hid hx4; have HM := Lib.hid hm; have HBB := Lib.hid hbb; clear hv' hb1 hx4 hm hbb))
      | fail)
    refine bodyPost_ret (results_c1 rfl _ _ (w.heap.size + 1 + 1) RT #[.slice A3 n3 c3, .slice A4 n4 c4] (0, 0) _ rfl (put2 HX.out) Tryd.underlying35 rfl (by kernel_rfl)) rfl ?_
    exact ⟨_, rfl, HM.out, HBB.out⟩
theorem does_c (c : Cf) (K : Nat → Prop) (v : Value) (L : List Pr) (o : Op1) (hk : o.k.size ≤ 1000000) (w : World) (h : MapV c K w v L) (hl : L.length ≤ 1000) (hT : Tab w) :
    Calls Tryd.prog 20 #[v, opV o] w (Ret (fun v' w' => MapV c (New K w) w' v' (doL L o)) w) := by
  obtain ⟨k, x, cut⟩ := o
  have hb := h.bound
  have h0 := hb
  obtain ⟨p, rfl, -⟩ := h
  refine ret_of (does_w c (fun b => K b ∧ b < w.heap.size) L k x cut (U c.1) c.2 L.length p w (doL L ⟨k, x, cut⟩) (fun b h => h.2) (fun hc V hV => ?_) (fun hc V hV => ?_)) fun v' w' hB hv => hv.mono fun b h => h.elim (fun h => Or.inl h.1) Or.inr
  · subst hc
    exact mcut_c c _ _ L k hk V (h0.below hV) (by omega) (hT.below hV)
  · subst hc
    exact mset_c c _ _ L k x hk V (h0.below hV) (by omega)
theorem should_c (K : Nat → Prop) (v : Value) (L : List Pr) (hS : Srt L) (hSm : Sm L) (o : Op1) (w : World) (h : RefV K w v L) (hl : L.length ≤ 1000) :
    Calls Tryd.prog 21 #[v, opV o] w (Ret (fun v' w' => RefV (Fresh w) w' v' (doL L o)) w) := by
  obtain ⟨k, x, cut⟩ := o
  have h0 := h
  obtain ⟨s, t, rfl, h1, h2⟩ := h
  obtain ⟨A1, c1, rfl⟩ := SlV.form' h1
  obtain ⟨A2, c2, rfl⟩ := SlV.form' h2
  refine should_w K k x cut A1 A2 _ _ c1 c2 w (doL L ⟨k, x, cut⟩) (fun hc V hV => ?_) (fun hc V hV => ?_)
  · subst hc
    exact refcut_c K _ L k V (h0.below hV) (by omega)
  · subst hc
    exact refset_c K _ L hS hSm (by omega) k x V (h0.below hV)
end Go.Proofs.YtnegblckbomgdaaDoor.Ht
end
section
namespace Go.Proofs.YtnegblckbomgdaaDoor.Ht
open Go Go.RowKit Go.Shelf Go.Proofs.YtnegblckbomgdaaDoor.Mem Go.Proofs.YtnegblckbomgdaaDoor.PA Go.Proofs.YtnegblckbomgdaaDoorW.PrintWords Go.Proofs.YtnegblckbomgdaaDoor.U64
abbrev kA : ByteArray := ⟨#[97]⟩
abbrev kB : ByteArray := ⟨#[98]⟩
abbrev kX : ByteArray := ⟨#[120]⟩
abbrev mz (b m : Int) (p : Option Addr) : Value := .agg #[.int .u64 0, .int .i64 b, .int .i64 m, .pointer p]
theorem set_lit (b : Int) (m m' : Int) (L : List Pr) (k : ByteArray) (x : Int) (hk : k.size ≤ 1000000) (hm : m = (L.length : Int)) (hm' : m' = ((ins L k x).length : Int)) (hle : L.length ≤ 1000) (K : Nat → Prop) (p : Option Addr) (V : World) (h : MapV (0#64, b) K V (mz b m p) L) :
    Calls Tryd.prog 25 #[mz b m p, .string k, .int .i64 x] V (Ret (fun v w' => ∃ p', v = mz b m' p' ∧ MapV (0#64, b) (New K V) w' (mz b m' p') (ins L k x)) V) := by
  refine ret_of (mset_c (0#64, b) K _ L k x hk V h (by omega)) fun v w' hB hv => ?_
  have h0 := hv
  obtain ⟨p', rfl, -⟩ := hv
  refine ⟨p', ?_, ?_⟩
  · rw [hm']; rfl
  · rw [hm']; exact h0
theorem new_lit (b : Int) (V : World) : Calls Tryd.prog 19 #[.agg #[.int .u64 0, .int .i64 b]] V (Ret (fun v _ => v = mz b 0 none) V) := new_w 0 b V
theorem map_nil (b : Int) (K : Nat → Prop) (V : World) : MapV (0#64, b) K V (mz b 0 none) [] := ⟨none, rfl, Or.inl ⟨rfl, rfl⟩, srt_nil, fun e he => by cases he⟩
theorem klt_ab : klt kA kB = true := by unfold klt; rw [ByteArray.toList_eq, ByteArray.toList_eq]; rfl
theorem ins_b : ins ([] : List Pr) kB 2 = [(kB, 2)] := rfl
theorem ins_ab : ins ([(kB, 2)] : List Pr) kA 1 = [(kA, 1), (kB, 2)] := by
  unfold ins lo hi
  simp [klt_ab, klt_asymm klt_ab]
theorem ins_x : ins ([] : List Pr) kX 1 = [(kX, 1)] := rfl
theorem lkp_b : lkp ([(kA, 1), (kB, 2)] : List Pr) kB = some 2 := by
  have : ¬ kA = kB := by intro h; have := congrArg (fun b => b.data.toList) h; simp at this
  simp [lkp, this]
theorem chk_zero (lev : Nat) (s : ByteArray) : chk (0#64, 0) lev s = 0 := by
  have h0 : hsh (0#64, 0) s = 0#64 := by unfold hsh low; rw [if_pos (by decide)]
  unfold chk chunkB
  rw [h0]
  split
  · rfl
  · simp
theorem shape_x : shapeT (0#64, 0) 13 [(kX, 1)] = ⟨#[40, 48, 46, 41]⟩ := by
  have hg : ∀ i, grp (chk (0#64, 0) 0) i [(kX, 1)] = if i = 0 then [(kX, 1)] else [] := by
    intro i
    unfold grp
    by_cases h : i = 0
    · subst h; simp [chk_zero]
    · rw [if_neg h]; simp [chk_zero]; omega
  have hf : ∀ n, (List.range (n + 1)).foldl (fun s i => s ++ partT (shapeT (0#64, 0) 12) i (grp (chk (0#64, 0) (12 - 12)) i [(kX, 1)])) opB = opB ++ (digT 0 ++ dotB) := by
    intro n
    induction n with
    | zero => rw [show List.range (0 + 1) = [0] from rfl, List.foldl_cons, List.foldl_nil, show 12 - 12 = 0 from rfl, hg]; rfl
    | succ n ih =>
      rw [List.range_succ, List.foldl_append, ih, List.foldl_cons, List.foldl_nil, show 12 - 12 = 0 from rfl, hg, if_neg (by omega)]
      exact cat_nil _
  unfold shapeT
  rw [show (32 : Nat) = 31 + 1 from rfl, hf]
  rfl
end Go.Proofs.YtnegblckbomgdaaDoor.Ht
end
section
namespace Go.Proofs.YtnegblckbomgdaaDoor.Ht
open Go Go.RowKit Go.Shelf Go.Proofs.YtnegblckbomgdaaDoor.Mem Go.Proofs.YtnegblckbomgdaaDoor.PA Go.Proofs.YtnegblckbomgdaaDoorW.PrintWords Go.Proofs.YtnegblckbomgdaaDoor.U64
theorem get_lit (K : Nat → Prop) (p : Option Addr) (V : World) (h : MapV (0#64, 2) K V (mz 2 2 p) [(kA, 1), (kB, 2)]) : Calls Tryd.prog 27 #[mz 2 2 p, .string kB] V (Ret (fun v _ => v = .tuple #[.int .i64 2, .bool true]) V) := by
  have := mget_c (0#64, 2) K _ _ kB (by decide) V h (by decide)
  unfold got at this
  rw [lkp_b] at this
  exact this
theorem shape_lit0 (V : World) : Calls Tryd.prog 22 #[mz 2 0 none] V (Ret (fun v _ => v = .string ⟨#[40, 41]⟩) V) := mshape_nil 0 2 0 V
theorem len_lit (p : Option Addr) (V : World) : Calls Tryd.prog 29 #[mz 2 2 p] V (Ret (fun v _ => v = .int .i64 2) V) := len_w 0 2 2 p V
theorem shape_lit (K : Nat → Prop) (p : Option Addr) (V : World) (hT : Tab V) (h : MapV (0#64, 0) K V (mz 0 1 p) [(kX, 1)]) : Calls Tryd.prog 22 #[mz 0 1 p] V (Ret (fun v _ => v = .string ⟨#[40, 48, 46, 41]⟩) V) := by
  have := mshape_c (0#64, 0) K _ _ V h (by decide) hT
  rwa [shape_x] at this
theorem keys_lit (K : Nat → Prop) (p : Option Addr) (V : World) (hT : Tab V) (h : MapV (0#64, 2) K V (mz 2 2 p) [(kA, 1), (kB, 2)]) : Calls Tryd.prog 26 #[mz 2 2 p] V (Ret (fun v w' => SlV (Fresh V) w' v (ksV [(kA, 1), (kB, 2)])) V) :=
  keys_c (0#64, 2) K _ _ V h (by decide) hT
theorem live_ab (w8 : World) : SlV (fun _ => True) (w8.alloc (.cells #[.string kA, .string kB] TS)) (.slice (some ⟨w8.heap.size, 0, none⟩) 2 2) (ksV [(kA, 1), (kB, 2)]) :=
  SlV.blk (K := fun _ => True) (cs := #[.string kA, .string kB]) (xs := ksV [(kA, 1), (kB, 2)]) (c := 2) (blk_new w8 _) (fun j v hj => by simpa [ksV] using hj) (by simp [ksV]) (by simp [maxLen]) (ksV_one _) trivial
set_option maxRecDepth 100000 in
set_option maxHeartbeats 4000000 in
theorem live_c (w : World) (hT : Tab w) : Calls Tryd.prog 17 #[] w (Ret (fun v _ => v = .bool true) w) := by
  have HT := Lib.hid hT
  have HN2 := Lib.hid (fun V => new_lit 2 V)
  have HN0 := Lib.hid (fun V => new_lit 0 V)
  have HS1 := Lib.hid (fun V => set_lit 2 0 1 [] kB 2 (by decide) rfl (by rw [ins_b]; rfl) (by decide) (fun _ => False) none V (map_nil 2 _ V))
  have HS2 := Lib.hid (fun K p V (h : MapV (0#64, 2) K V (mz 2 1 p) (ins [] kB 2)) => set_lit 2 1 2 (ins [] kB 2) kA 1 (by decide) (by rw [ins_b]; rfl) (by rw [ins_b, ins_ab]; rfl) (by rw [ins_b]; decide) K p V h)
  have HS0 := Lib.hid (fun V => set_lit 0 0 1 [] kX 1 (by decide) rfl (by rw [ins_x]; rfl) (by decide) (fun _ => False) none V (map_nil 0 _ V))
  have HG := Lib.hid (fun K p V (h : MapV (0#64, 2) K V (mz 2 2 p) (ins (ins [] kB 2) kA 1)) => get_lit K p V (by rw [ins_b, ins_ab] at h; exact h))
  have HK := Lib.hid (fun K p V hT (h : MapV (0#64, 2) K V (mz 2 2 p) (ins (ins [] kB 2) kA 1)) => keys_lit K p V hT (by rw [ins_b, ins_ab] at h; exact h))
  have HH0 := Lib.hid (fun V => shape_lit0 V)
  have HL := Lib.hid (fun p V => len_lit p V)
  have HHX := Lib.hid (fun K p V hT (h : MapV (0#64, 0) K V (mz 0 1 p) (ins [] kX 1)) => shape_lit K p V hT (by rw [ins_x] at h; exact h))
  have HW := Lib.hid (fun K K' (u v : Value) V hu hv => words_c K K' u v [(kA, 1), (kB, 2)] [(kA, 1), (kB, 2)] (by decide) V hu hv)
  clear hT
  go_enter Tryd.func17, Tryd.ntmps17
  go_upto_region 3 with (first
    | (go_at_call 19; ((with_reducible refine (HN2.out _).mono ?_); rintro e w1 ⟨v, rfl, rfl, hb1⟩))
    | (go_at_call 25; ((with_reducible refine (HS1.out _).mono ?_); rintro e w2 ⟨v, rfl, ⟨p1, rfl, hm1⟩, hb2⟩))
    | (go_at_call 25; ((with_reducible refine (HS2.out _ _ _ hm1).mono ?_); rintro e w3 ⟨v, rfl, ⟨p2, rfl, hm2⟩, hb3⟩))
    | fail)
  have B1 := blk_alloc (blk_below (blk_below (blk_new w1 (.cells #[.int .u64 0, .int .i64 2, .int .i64 0, .pointer none] MT)) hb2) hb3) (.cells #[.int .u64 0, .int .i64 2, .int .i64 2, .pointer p2] MT)
  have B2 := blk_new w3 (.cells #[.int .u64 0, .int .i64 2, .int .i64 2, .pointer p2] MT)
  have HM := Lib.hid (hm2.below ((Below.refl w3.heap.size w3).alloc (Nat.le_refl _) (.cells #[.int .u64 0, .int .i64 2, .int .i64 2, .pointer p2] MT)))
  have hB0 : Below w.heap.size w (w3.alloc (.cells #[.int .u64 0, .int .i64 2, .int .i64 2, .pointer p2] MT)) := (below_trans (below_trans (hb1.alloc hb1.size (.cells #[.int .u64 0, .int .i64 2, .int .i64 0, .pointer none] MT)) hb2) hb3).alloc (below_trans (below_trans (hb1.alloc hb1.size (.cells #[.int .u64 0, .int .i64 2, .int .i64 0, .pointer none] MT)) hb2) hb3).size _
  have HB0 := Lib.hid hB0
  obtain ⟨⟨a0, a1, a2, a3⟩, -⟩ := box4 B1
  obtain ⟨⟨b0, b1, b2, b3⟩, -⟩ := box4 B2
  have HB1 := Lib.hid B1; have HB2 := Lib.hid B2
  clear B1 B2 hB0 hm1 hm2 hb1 hb2 hb3 HS1 HS2 HN2
  generalize w3.alloc (.cells #[.int .u64 0, .int .i64 2, .int .i64 2, .pointer p2] MT) = W at *
  generalize w3.heap.size = g2 at *
  generalize w1.heap.size = g1 at *
  go_wp2_with (first
    | (go_at_call 27; ((with_reducible refine (HG.out _ _ _ HM.out).mono ?_); rintro e w5 ⟨v, rfl, rfl, hb5⟩; have H5 := Lib.hid hb5; obtain ⟨⟨c0, c1, c2, c3⟩, -⟩ := box4 (blk_below HB1.out hb5); clear hb5))
    | (go_at_call 22; ((with_reducible refine (HH0.out _).mono ?_); rintro e w6 ⟨v, rfl, rfl, hb6⟩; have H6 := Lib.hid (below_trans H5.out hb6); obtain ⟨⟨d0, d1, d2, d3⟩, -⟩ := box4 (blk_below HB2.out H6.out); clear hb6))
    | (go_at_call 29; ((with_reducible refine (HL.out _ _).mono ?_); rintro e w7 ⟨v, rfl, rfl, hb7⟩; have H7 := Lib.hid (below_trans H6.out hb7); obtain ⟨⟨e0, e1, e2, e3⟩, -⟩ := box4 (blk_below HB2.out H7.out); clear hb7))
    | (go_at_call 26; ((with_reducible refine (HK.out _ _ _ (HT.out.below (below_trans HB0.out H7.out)) (HM.out.below H7.out)).mono ?_); rintro e w8 ⟨v, rfl, hs8, hb8⟩; have H8 := Lib.hid (below_trans H7.out hb8); have HS8 := Lib.hid hs8; clear hs8 hb8))
    | (go_at_call 30; ((with_reducible refine (HW.out _ _ _ _ _ (SlV.below HS8.out ((Below.refl _ _).alloc (Nat.le_refl _) _)) (live_ab w8)).mono ?_); rintro e w9 ⟨v, rfl, rfl, hb9⟩; have H9 := Lib.hid (below_trans (H8.out.alloc H8.out.size _) hb9); clear hb9))
    | (go_at_call 19; ((with_reducible refine (HN0.out _).mono ?_); rintro e w10 ⟨v, rfl, rfl, hb10⟩; have H10 := Lib.hid (below_trans H9.out hb10); clear hb10))
    | (go_at_call 25; ((with_reducible refine (HS0.out _).mono ?_); rintro e w11 ⟨v, rfl, ⟨p3, rfl, hm3⟩, hb11⟩; have H11 := Lib.hid (below_trans H10.out hb11); have HM3 := Lib.hid hm3; clear hm3 hb11))
    | (go_at_call 22; ((with_reducible refine (HHX.out _ _ _ (HT.out.below (below_trans HB0.out H11.out)) HM3.out).mono ?_); rintro e w12 ⟨v, rfl, rfl, hb12⟩; have H12 := Lib.hid (below_trans H11.out hb12); clear hb12))
    | fail)
  go_returns
  exact ⟨_, rfl, rfl, below_trans HB0.out H12.out⟩
end Go.Proofs.YtnegblckbomgdaaDoor.Ht
end
section
namespace Go.Proofs.YtnegblckbomgdaaDoor.Ht
open Go Go.RowKit Go.Shelf Go.Proofs.YtnegblckbomgdaaDoor.Mem Go.Proofs.YtnegblckbomgdaaDoor.PA Go.Proofs.YtnegblckbomgdaaDoorW.PrintWords Go.Proofs.YtnegblckbomgdaaDoor.U64
abbrev S3 := S37
def o1 (s : S3) : Op1 := ⟨s.f0, s.f1, s.f2⟩
def OpsV (w : World) (v : Value) (os : List S3) : Prop := ∃ A c, v = .slice A os.length c ∧ os.length ≤ c ∧ Kd.C k37 w A os.length os
theorem OpsV.below {w w' : World} {v : Value} {os : List S3} (h : OpsV w v os) (hb : Below w.heap.size w w') : OpsV w' v os := by
  obtain ⟨A, c, h1, h2, h3⟩ := h
  exact ⟨A, c, h1, h2, Kd.C_below h3 hb⟩
theorem OpsV.max {w : World} {v : Value} {os : List S3} (h : OpsV w v os) : os.length ≤ 9223372036854775807 := by
  obtain ⟨A, c, h1, h2, h3⟩ := h
  exact h3.2.1
theorem OpsV.at {w : World} {A : Option Addr} {n c : Nat} {os : List S3} (h : OpsV w (.slice A n c) os) (j : Nat) (o : S3) (ho : os[j]? = some o) :
    ∃ ad, A = some ad ∧ w.cell? (ad.add (j * 3)) = some (.string o.f0) ∧ w.cell? ⟨(ad.add (j * 3)).block, (ad.add (j * 3)).off + 1, none⟩ = some (.int .i64 o.f1) ∧ w.cell? ⟨(ad.add (j * 3)).block, (ad.add (j * 3)).off + 2, none⟩ = some (.bool o.f2) := by
  obtain ⟨A', c', he, h2, h3⟩ := h
  injection he with e1 e2 e3
  subst e1
  have hj := (List.getElem?_eq_some_iff.1 ho).1
  have := at_T37 h3 (j : Int) (by omega) (by omega)
  have e : rd_T37 os (j : Int) = o := by simp [rd_T37, List.getD_eq_getElem?_getD, ho]
  rw [e] at this
  simpa using this
theorem few_loop (os : List S3) (hm : os.length ≤ 9223372036854775807) : ∀ (d i : Nat), i + d = os.length → ∃ b : Bool, Ev (fun f => placketlaw09_few.l0 f os os (os.length : Int) (i : Int)) b ∧ (b = true → os.length ≤ 120 ∧ ∀ o ∈ os.drop i, o.f0.size ≤ 200)
  | 0, i, hi => by
    refine ⟨decide ((os.length : Int) ≤ 120), Bs.Ev.ge 1 fun f => ?_, fun h => ?_⟩
    · simp only [placketlaw09_few.l0]
      rw [if_neg (by omega)]
    · have h1 := of_decide_eq_true h
      refine ⟨by omega, fun o ho => ?_⟩
      rw [List.drop_eq_nil_of_le (by omega)] at ho
      cases ho
  | d + 1, i, hi => by
    have hlt : i < os.length := by omega
    have ho : os[i]? = some os[i] := List.getElem?_eq_getElem hlt
    generalize os[i] = o at ho
    have e : rd_T37 os (i : Int) = o := by simp [rd_T37, List.getD_eq_getElem?_getD, ho]
    have hd : os.drop i = o :: os.drop (i + 1) := by
      rw [List.drop_eq_getElem_cons hlt]
      have := List.getElem?_eq_some_iff.1 ho
      obtain ⟨h1, h2⟩ := this
      rw [h2]
    by_cases hk : (o.f0.size : Int) > 200
    · refine ⟨false, Bs.Ev.ge 1 fun f => ?_, fun h => by cases h⟩
      simp only [placketlaw09_few.l0]
      rw [if_pos (by omega), if_pos (by omega), if_pos (by omega), e, if_pos hk]
    · obtain ⟨b, ⟨K, hb⟩, hh⟩ := few_loop os hm d (i + 1) (by omega)
      refine ⟨b, Bs.Ev.shift 1 ⟨K, fun f hf => ?_⟩, fun h => ⟨(hh h).1, fun q hq => ?_⟩⟩
      · simp only [placketlaw09_few.l0]
        rw [if_pos (by omega), if_pos (by omega), if_pos (by omega), e, if_neg hk, Bs.w64_succ (by omega)]
        exact hb f hf
      · rw [hd] at hq
        rcases List.mem_cons.1 hq with rfl | hq
        · omega
        · exact (hh h).2 q hq
theorem few_c (v : Value) (os : List S3) (w : World) (h : OpsV w v os) : ∃ b : Bool, (b = true → os.length ≤ 120 ∧ ∀ o ∈ os, o.f0.size ≤ 200) ∧ ∀ V, Below w.heap.size w V → Calls Tryd.prog 18 #[v] V (Ret (fun u _ => u = .bool b) V) := by
  have hm := h.max
  obtain ⟨A, c, rfl, h2, h3⟩ := h
  obtain ⟨b, ⟨K, hb⟩, hh⟩ := few_loop os hm os.length 0 (by omega)
  refine ⟨b, hh, fun V hV => ?_⟩
  exact (placketlaw09_few.calls K A c os b V (Kd.C_below h3 hV) h2 (hb K (Nat.le_refl _))).mono fun e w' h => ⟨_, h.1, rfl, h.2⟩
def KS (g : Nat) : Nat → Prop := fun b => b ≠ g ∧ b ≠ g + 1
theorem KS.of {g b m : Nat} (h : m ≤ b) (hg : g + 1 < m) : KS g b := ⟨by omega, by omega⟩
def Two (c : Cf) (y b : Int) (g : Nat) (n : Int) (p : Option Addr) (s t : Value) (L : List Pr) (wr : World) : Prop :=
  wr.heap[g]? = some (.cells #[.int .u64 y, .int .i64 b, .int .i64 n, .pointer p] MT (0, 0)) ∧ wr.heap[g + 1]? = some (.cells #[s, t] RT (0, 0)) ∧
    MapV c (KS g) wr (.agg #[.int .u64 y, .int .i64 b, .int .i64 n, .pointer p]) L ∧ RefV (KS g) wr (.agg #[s, t]) L
theorem Two.below {c : Cf} {y b : Int} {g : Nat} {n : Int} {p : Option Addr} {s t : Value} {L : List Pr} {w w' : World} (h : Two c y b g n p s t L w) (hb : Below w.heap.size w w') : Two c y b g n p s t L w' :=
  ⟨blk_below h.1 hb, blk_below h.2.1 hb, h.2.2.1.below hb, h.2.2.2.below hb⟩
theorem two_put {c : Cf} {y b : Int} {g : Nat} {V w1 w2 : World} {n n' : Int} {p p' : Option Addr} {s t s' t' : Value} {L L' : List Pr} (h : Two c y b g n p s t L V) (hb1 : Below V.heap.size V w1) (hb2 : Below w1.heap.size w1 w2)
    (hm : MapV c (New (KS g) V) w1 (.agg #[.int .u64 y, .int .i64 b, .int .i64 n', .pointer p']) L') (hr : RefV (Fresh w1) w2 (.agg #[s', t']) L') :
    Two c y b g n' p' s' t' L' (((put4w w2 g (.int .u64 y) (.int .i64 b) (.int .i64 n') (.pointer p')).setCell ⟨g + 1, 0, none⟩ s').setCell ⟨g + 1, 1, none⟩ t') := by
  have hg1 : g + 1 < V.heap.size := blk_lt h.2.1
  have h12 := below_trans hb1 hb2
  have b0 := blk_below h.1 h12
  have b1 := blk_below h.2.1 h12
  have hm2 : MapV c (KS g) w2 (.agg #[.int .u64 y, .int .i64 b, .int .i64 n', .pointer p']) L' := (hm.below hb2).mono fun b hb => hb.elim id fun hb => KS.of hb hg1
  have hr2 : RefV (KS g) w2 (.agg #[s', t']) L' := hr.mono fun b hb => KS.of (Nat.le_trans hb1.size hb) hg1
  have n0 : ¬ KS g g := fun h => h.1 rfl
  have n1 : ¬ KS g (g + 1) := fun h => h.2 rfl
  refine ⟨?_, ?_, ?_, ?_⟩
  · exact blk_far (blk_far (put4 b0) (p := ⟨g + 1, 0, none⟩) (show g ≠ g + 1 by omega) _) (p := ⟨g + 1, 1, none⟩) (show g ≠ g + 1 by omega) _
  · exact put2 (blk_far (blk_far (blk_far (blk_far b1 (p := ⟨g, 0, none⟩) (show g + 1 ≠ g by omega) _) (p := ⟨g, 1, none⟩) (show g + 1 ≠ g by omega) _) (p := ⟨g, 2, none⟩) (show g + 1 ≠ g by omega) _) (p := ⟨g, 3, none⟩) (show g + 1 ≠ g by omega) _)
  · exact mapv_far (mapv_far (mapv_far (mapv_far (mapv_far (mapv_far hm2 _ 0 _ n0) _ 1 _ n0) _ 2 _ n0) _ 3 _ n0) _ 0 _ n1) _ 1 _ n1
  · exact refv_far (refv_far (refv_far (refv_far (refv_far (refv_far hr2 _ 0 _ n0) _ 1 _ n0) _ 2 _ n0) _ 3 _ n0) _ 0 _ n1) _ 1 _ n1
theorem two_below {g : Nat} {w V w1 w2 : World} (hg : w.heap.size ≤ g) (hw : Below w.heap.size w V) (hb1 : Below V.heap.size V w1) (hb2 : Below w1.heap.size w1 w2) (a b c d e f : Value) :
    Below w.heap.size w (((put4w w2 g a b c d).setCell ⟨g + 1, 0, none⟩ e).setCell ⟨g + 1, 1, none⟩ f) := by
  have h := below_trans (below_trans hw hb1) hb2
  exact (((((h.setCell (p := ⟨g, 0, none⟩) hg _).setCell (p := ⟨g, 1, none⟩) hg _).setCell (p := ⟨g, 2, none⟩) hg _).setCell (p := ⟨g, 3, none⟩) hg _).setCell (p := ⟨g + 1, 0, none⟩) (Nat.le_succ_of_le hg) _).setCell (p := ⟨g + 1, 1, none⟩) (Nat.le_succ_of_le hg) _
theorem doL_length (L : List Pr) (o : Op1) (h : Srt L) : (doL L o).length ≤ L.length + 1 := by
  unfold doL
  split
  · exact Nat.le_succ_of_le (List.length_filter_le _ _)
  · cases hk : lkp L o.k with
    | none => rw [ins_length_none h o.x hk]; exact Nat.le_refl _
    | some y => rw [ins_length_some h o.x hk]; exact Nat.le_succ _
theorem does_two {c : Cf} {y b : Int} (hy : U c.1 = y) (hb : c.2 = b) {g : Nat} {n : Int} {p : Option Addr} {s t : Value} {L : List Pr} {V : World} (h : Two c y b g n p s t L V) (hl : L.length ≤ 1000) (o : Op1) (hk : o.k.size ≤ 1000000) (hT : Tab V) :
    Calls Tryd.prog 20 #[.agg #[.int .u64 y, .int .i64 b, .int .i64 n, .pointer p], .agg #[.string o.k, .int .i64 o.x, .bool o.cut]] V (Ret (fun v' w' => ∃ n' p', v' = .agg #[.int .u64 y, .int .i64 b, .int .i64 n', .pointer p'] ∧ MapV c (New (KS g) V) w' (.agg #[.int .u64 y, .int .i64 b, .int .i64 n', .pointer p']) (doL L o)) V) :=
  ret_of (does_c c (KS g) _ L o hk V h.2.2.1 hl hT) fun v' w' hB hv => by
    have h0 := hv
    obtain ⟨p', rfl, -⟩ := hv
    exact ⟨_, p', by rw [← hy, ← hb], by rw [← hy, ← hb]; exact h0⟩
theorem should_two {c : Cf} {y b : Int} {g : Nat} {n : Int} {p : Option Addr} {s t : Value} {L : List Pr} {V V' : World} (h : Two c y b g n p s t L V) (hl : L.length ≤ 1000) (o : Op1) (hV : Below V.heap.size V V') :
    Calls Tryd.prog 21 #[.agg #[s, t], .agg #[.string o.k, .int .i64 o.x, .bool o.cut]] V' (Ret (fun v' w' => ∃ A1 n1 c1 A2 n2 c2, v' = .agg #[.slice A1 n1 c1, .slice A2 n2 c2] ∧ RefV (Fresh V') w' (.agg #[.slice A1 n1 c1, .slice A2 n2 c2]) (doL L o)) V') :=
  have hm := h.2.2.1
  ret_of (should_c (KS g) _ L (by obtain ⟨p, -, -, h1, h2⟩ := hm; exact h1) (by obtain ⟨p, -, -, h1, h2⟩ := hm; exact h2) o V' (h.2.2.2.below hV) hl) fun v' w' hB hv => by
    have h0 := hv
    obtain ⟨s', t', rfl, h1, h2⟩ := hv
    obtain ⟨A1, n1, c1, rfl⟩ := h1.form
    obtain ⟨A2, n2, c2, rfl⟩ := h2.form
    exact ⟨A1, n1, c1, A2, n2, c2, rfl, h0⟩
theorem Two.srt {c : Cf} {y b : Int} {g : Nat} {n : Int} {p : Option Addr} {s t : Value} {L : List Pr} {V : World} (h : Two c y b g n p s t L V) : Srt L ∧ Sm L := by
  obtain ⟨p, -, -, h1, h2⟩ := h.2.2.1
  exact ⟨h1, h2⟩
theorem Two.form {c : Cf} {y b : Int} {g : Nat} {n : Int} {p : Option Addr} {s t : Value} {L : List Pr} {V : World} (h : Two c y b g n p s t L V) : ∃ A1 n1 c1 A2 n2 c2, s = .slice A1 n1 c1 ∧ t = .slice A2 n2 c2 := by
  obtain ⟨s', t', e, h1, h2⟩ := h.2.2.2
  simp only [Value.agg.injEq, Array.mk.injEq, List.cons.injEq, and_true] at e
  obtain ⟨rfl, rfl⟩ := e
  obtain ⟨A1, n1, c1, rfl⟩ := h1.form
  obtain ⟨A2, n2, c2, rfl⟩ := h2.form
  exact ⟨A1, n1, c1, A2, n2, c2, rfl, rfl⟩
theorem Two.keys {c : Cf} {y b : Int} {g : Nat} {n : Int} {p : Option Addr} {s t : Value} {L : List Pr} {V : World} (h : Two c y b g n p s t L V) : SlV (KS g) V s (ksV L) := by
  obtain ⟨s', t', e, h1, h2⟩ := h.2.2.2
  simp only [Value.agg.injEq, Array.mk.injEq, List.cons.injEq, and_true] at e
  obtain ⟨rfl, rfl⟩ := e
  exact h1
def Tru (W : World) (e : Ending) (W' : World) : Prop := e = .returned (.bool true) ∧ Below W.heap.size W W'
end Go.Proofs.YtnegblckbomgdaaDoor.Ht
end
section
namespace Go.Proofs.YtnegblckbomgdaaDoor.Ht
open Go Go.RowKit Go.Shelf Go.Proofs.YtnegblckbomgdaaDoor.Mem Go.Proofs.YtnegblckbomgdaaDoor.PA Go.Proofs.YtnegblckbomgdaaDoorW.PrintWords Go.Proofs.YtnegblckbomgdaaDoor.U64 Go.Proofs.YtnegblckbomgdaaDoor
def ShI (c : Cf) (y b : Int) (W : World) (g T k : Nat) (v26 : Value) (wr : World) : Prop :=
  ∃ (i : Nat) (n : Int) (p : Option Addr) (s t : Value) (L : List Pr), v26 = .int .i64 (i : Int) ∧ i + k = T ∧ L.length ≤ i ∧ Two c y b g n p s t L wr ∧ wr.heap[W.heap.size]? = some (.cells #[.int .u64 y, .int .i64 b] CT (0, 0)) ∧ Below W.heap.size W wr
theorem two_start (c : Cf) (y b : Int) (hy : U c.1 = y) (hb : c.2 = b) (w3 : World) :
    Two c y b w3.heap.size 0 none (.slice none 0 0) (.slice none 0 0) [] ((w3.alloc (.cells #[.int .u64 y, .int .i64 b, .int .i64 0, .pointer none] MT)).alloc (.cells #[.slice none 0 0, .slice none 0 0] RT)) :=
  ⟨blk_alloc (blk_new w3 _) _, heap_k1 w3 _ _, ⟨none, by rw [← hy, ← hb]; rfl, Or.inl ⟨rfl, rfl⟩, srt_nil, fun e he => by cases he⟩, _, _, rfl, SlV.nil _ _, SlV.nil _ _⟩
set_option maxRecDepth 100000 in
set_option maxHeartbeats 8000000 in
theorem shapes_in (c : Cf) (v : Value) (os : List S3) (W : World) (hT : Tab W) (hO : OpsV W v os) (hl : os.length ≤ 30) (hk : ∀ o ∈ os, o.f0.size ≤ 200)
    (hf : ∀ V, Below W.heap.size W V → Calls Tryd.prog 18 #[v] V (Ret (fun u _ => u = .bool true) V)) :
    Calls Tryd.prog 3 #[confV c, v] W (Tru W) := by
  obtain ⟨As, cs, rfl, -⟩ := id hO
  obtain ⟨y, hy⟩ : ∃ y, U c.1 = y := ⟨_, rfl⟩
  obtain ⟨b, hb⟩ : ∃ b, c.2 = b := ⟨_, rfl⟩
  have HT := Lib.hid hT; have HO := Lib.hid hO; have HK := Lib.hid hk; have HF := Lib.hid hf; have HY := Lib.hid hy; have HBE := Lib.hid hb
  have HLV := Lib.hid (fun V hT => live_c V hT)
  have HNW := Lib.hid (fun V => (show Calls Tryd.prog 19 #[.agg #[.int .u64 y, .int .i64 b]] V (Ret (fun v _ => v = .agg #[.int .u64 y, .int .i64 b, .int .i64 0, .pointer none]) V) from new_w y b V))
  have HRS := Lib.hid (fun (M : List Pr) (K : Nat → Prop) (v : Value) (w : World) h hS hM => refshape_c c 13 0 rfl M K v w h hS hM)
  have HMS := Lib.hid (fun (K : Nat → Prop) (v : Value) (L : List Pr) (w : World) h hl hT => mshape_c c K v L w h hl hT)
  have HRS : Hid (∀ (M : List Pr) (K : Nat → Prop) (v : Value) (w : World), SlV K w v (ksV M) → Sm M → M.length ≤ 1000 → Calls Tryd.prog 23 #[.agg #[.int .u64 y, .int .i64 b], v, .int .i64 0] w (Ret (fun u _ => u = .string (shapeT c 13 M)) w)) := by rw [← hy, ← hb]; exact HRS
  show Calls Tryd.prog 3 #[.agg #[.int .u64 (U c.1), .int .i64 c.2], .slice As os.length cs] W _
  rw [hy, hb]
  obtain ⟨T, hTe⟩ : ∃ T, T = os.length := ⟨_, rfl⟩
  rw [← hTe] at HO HF hl ⊢
  have HTE := Lib.hid hTe
  have hlI : (T : Int) ≤ 30 := by omega
  have hgt : ¬ (T : Int) > 30 := by omega
  clear hT hO hk hf hTe hy hb
  go_enter Tryd.func3, Tryd.ntmps3
  have BC0 := blk_new W (.cells #[.int .u64 y, .int .i64 b] CT)
  have hB0 := (Below.refl W.heap.size W).alloc (Nat.le_refl _) (.cells #[.int .u64 y, .int .i64 b] CT)
  go_wp2_with (first
    | (go_at_call 17; ((with_reducible refine (HLV.out _ (HT.out.below hB0)).mono ?_); rintro e w1 ⟨v, rfl, rfl, hb1⟩; have HB1 := Lib.hid (below_trans hB0 hb1); have HC1 := Lib.hid (blk_below BC0 hb1); clear hb1))
    | (go_at_call 18; ((with_reducible refine (HF.out _ HB1.out).mono ?_); rintro e w2 ⟨v, rfl, rfl, hb2⟩; have HB2 := Lib.hid (below_trans HB1.out hb2); have HC2 := Lib.hid (blk_below HC1.out hb2); obtain ⟨⟨a0, a1⟩, -⟩ := box2 HC2.out; clear hb2))
    | (go_at_call 19; ((with_reducible refine (HNW.out _).mono ?_); rintro e w3 ⟨v, rfl, rfl, hb3⟩; have HB3 := Lib.hid (below_trans HB2.out hb3); have HC3 := Lib.hid (blk_below HC2.out hb3); clear hb3))
    | fail)
  have h3s := HB3.out.size
  have HC4 := Lib.hid (blk_alloc (blk_alloc HC3.out (.cells #[.int .u64 y, .int .i64 b, .int .i64 0, .pointer none] MT)) (.cells #[.slice none 0 0, .slice none 0 0] RT))
  have HB4 := Lib.hid ((HB3.out.alloc h3s (.cells #[.int .u64 y, .int .i64 b, .int .i64 0, .pointer none] MT)).alloc (by simp; omega) (.cells #[.slice none 0 0, .slice none 0 0] RT))
  have HW4 := Lib.hid (two_start c y b HY.out HBE.out w3)
  have hgw : W.heap.size < w3.heap.size := blk_lt HC3.out
  clear BC0 hB0 h3s a0 a1 HB1 HB2 HB3 HC1 HC2 HC3
  generalize (w3.alloc (.cells #[.int .u64 y, .int .i64 b, .int .i64 0, .pointer none] MT)).alloc (.cells #[.slice none 0 0, .slice none 0 0] RT) = W4 at *
  generalize w3.heap.size = g at *
  go_loopg [26] T (fun k v26 wr => Aside (ShI c y b W g T k v26 wr))
  case atStart =>
    show ShI _ _ _ _ _ _ _ _ _
    exact ⟨0, _, _, _, _, _, rfl, by omega, by simp, HW4.out, HC4.out, HB4.out⟩
  case round =>
    obtain ⟨i, n, p, s, t, L, rfl, hiT, hLi, hTw, hC, hB⟩ := hrel.out
    clear hrel
    obtain ⟨A1, n1, c1, A2, n2, c2, rfl, rfl⟩ := hTw.form
    by_cases hlt : i < T
    · have hltI : (i : Int) < (T : Int) := by omega
      obtain ⟨o, ho⟩ : ∃ o, os[i]? = some o := ⟨_, List.getElem?_eq_getElem (by rw [← HTE.out]; exact hlt)⟩
      obtain ⟨ad, rfl, x0, x1, x2⟩ := HO.out.at i o ho
      have x0 := cell_below x0 hB
      have x1 := cell_below x1 hB
      have x2 := cell_below x2 hB
      have hok := HK.out o (List.mem_of_getElem? ho)
      obtain ⟨gk, rfl⟩ : ∃ g, gk = g + 1 := ⟨gk - 1, by omega⟩
      have hBo := blk_new wr (.cells #[.string o.f0, .int .i64 o.f1, .bool o.f2] OT)
      have hbl := (Below.refl wr.heap.size wr).alloc (Nat.le_refl _) (.cells #[.string o.f0, .int .i64 o.f1, .bool o.f2] OT)
      have HT2 := Lib.hid (hTw.below hbl); have HCV := Lib.hid (blk_below hC hbl); have HBV := Lib.hid (below_trans hB hbl); have HBO := Lib.hid hBo
      have hLl : L.length ≤ 1000 := by omega
      have HSR := Lib.hid hTw.srt
      clear hTw hC hB hBo hbl ho
      go_upto_region 8 with fail
      generalize wr.alloc (.cells #[.string o.f0, .int .i64 o.f1, .bool o.f2] OT) = V at HT2 HCV HBV HBO ⊢
      generalize wr.heap.size = gb at HBO ⊢
      go_cut [26] from 26 to 43 (fun s26 wx => s26 = .int .i64 (i : Int) ∧ ∃ n p A1 n1 c1 A2 n2 c2, Aside (Two c y b g n p (.slice A1 n1 c1) (.slice A2 n2 c2) (doL L (o1 o)) wx ∧ wx.heap[W.heap.size]? = some (.cells #[.int .u64 y, .int .i64 b] CT (0, 0)) ∧ Below W.heap.size W wx))
      case first =>
          have HDO := Lib.hid (does_two HY.out HBE.out (HT2.out.below ((Below.refl V.heap.size V).drew)) hLl (o1 o) (Nat.le_trans hok (by decide)) (HT.out.below (HBV.out.drew)))
          have HSH := Lib.hid (fun V' (hV : Below V.heap.size V V') => should_two HT2.out hLl (o1 o) hV)
          obtain ⟨⟨q0, q1, q2, q3⟩, -⟩ := box4 HT2.out.1
          obtain ⟨⟨q4, q5⟩, -⟩ := box2 HT2.out.2.1
          obtain ⟨⟨o0, o1', o2⟩, -⟩ := box3 HBO.out
          have hfin : ∀ (w1 w2 : World) (n' : Int) (p' : Option Addr) (s' t' : Value), Below V.heap.size V w1 → Below w1.heap.size w1 w2 →
              (((put4w w2 g (.int .u64 y) (.int .i64 b) (.int .i64 n') (.pointer p')).setCell ⟨g + 1, 0, none⟩ s').setCell ⟨g + 1, 1, none⟩ t').heap[W.heap.size]? = some (.cells #[.int .u64 y, .int .i64 b] CT (0, 0)) ∧ Below W.heap.size W (((put4w w2 g (.int .u64 y) (.int .i64 b) (.int .i64 n') (.pointer p')).setCell ⟨g + 1, 0, none⟩ s').setCell ⟨g + 1, 1, none⟩ t') := fun w1 w2 n' p' s' t' h1 h2 =>
            ⟨blk_far (blk_far (blk_far (blk_far (blk_far (blk_far (blk_below HCV.out (below_trans h1 h2)) (p := ⟨g, 0, none⟩) (show W.heap.size ≠ g by omega) _) (p := ⟨g, 1, none⟩) (show W.heap.size ≠ g by omega) _) (p := ⟨g, 2, none⟩) (show W.heap.size ≠ g by omega) _) (p := ⟨g, 3, none⟩) (show W.heap.size ≠ g by omega) _) (p := ⟨g + 1, 0, none⟩) (show W.heap.size ≠ g + 1 by omega) _) (p := ⟨g + 1, 1, none⟩) (show W.heap.size ≠ g + 1 by omega) _, two_below (by omega) HBV.out h1 h2 _ _ _ _ _ _⟩
          have HFIN := Lib.hid hfin
          clear hfin x0 x1 x2
          refine wp_region_noPanic ?_
          refine RegL.wp_region_late [6, 7] (fun (w' : World) => (w'.cell? ⟨g, 0, none⟩ = some (.int .u64 y) ∧ w'.cell? ⟨g, 1, none⟩ = some (.int .i64 b) ∧ w'.cell? ⟨g, 2, none⟩ = some (.int .i64 n) ∧ w'.cell? ⟨g, 3, none⟩ = some (.pointer p)) ∧ (w'.cell? ⟨(g + 1), 0, none⟩ = some (.slice A1 n1 c1) ∧ w'.cell? ⟨(g + 1), 1, none⟩ = some (.slice A2 n2 c2)) ∧ w'.cell? ⟨gb, 0, none⟩ = some (.string o.f0) ∧ w'.cell? ⟨gb, 1, none⟩ = some (.int .i64 o.f1) ∧ w'.cell? ⟨gb, 2, none⟩ = some (.bool o.f2)) (by kernel_rfl) ?_
          have hS0 : (fun (w' : World) => (w'.cell? ⟨g, 0, none⟩ = some (.int .u64 y) ∧ w'.cell? ⟨g, 1, none⟩ = some (.int .i64 b) ∧ w'.cell? ⟨g, 2, none⟩ = some (.int .i64 n) ∧ w'.cell? ⟨g, 3, none⟩ = some (.pointer p)) ∧ (w'.cell? ⟨(g + 1), 0, none⟩ = some (.slice A1 n1 c1) ∧ w'.cell? ⟨(g + 1), 1, none⟩ = some (.slice A2 n2 c2)) ∧ w'.cell? ⟨gb, 0, none⟩ = some (.string o.f0) ∧ w'.cell? ⟨gb, 1, none⟩ = some (.int .i64 o.f1) ∧ w'.cell? ⟨gb, 2, none⟩ = some (.bool o.f2)) V.drew := ⟨⟨q0, q1, q2, q3⟩, ⟨q4, q5⟩, o0, o1', o2⟩
          clear q0 q1 q2 q3 q4 q5 o0 o1' o2
          show RegL.wpAnyL _ _ _ _ _ _ 8 _ _ _
          refine RegL.wpAnyL_take (i := 0) (oi := ⟨some 30, Op.load 30 (Operand.tmp 5), _, _, _, _⟩) (v := ?vvr81) rfl (by kernel_rfl) (by kernel_rfl) (by kernel_rfl) (by kernel_rfl) (by kernel_rfl) (by kernel_rfl) (fun _ _ _ h => h) (Or.inl ⟨by rfl, ?hyr81⟩) hS0 ?restr81
          case hyr81 => ((intro w hSw; (try dsimp only at hSw); go_simp) <;> with_reducible rfl)
          try simp only [Act.put, List.setIfInBounds_toArray, List.set_cons_zero, List.set_cons_succ]
          refine RegL.wpAnyL_take (i := 1) (oi := ⟨some 31, Op.load 37 (Operand.tmp 8), _, _, _, _⟩) (v := ?vvr82) rfl (by kernel_rfl) (by kernel_rfl) (by kernel_rfl) (by kernel_rfl) (by kernel_rfl) (by kernel_rfl) (fun _ _ _ h => h) (Or.inl ⟨by rfl, ?hyr82⟩) hS0 ?restr82
          case hyr82 => ((intro w hSw; (try dsimp only at hSw); go_simp) <;> with_reducible rfl)
          try simp only [Act.put, List.setIfInBounds_toArray, List.set_cons_zero, List.set_cons_succ]
          refine RegL.wpAnyL_take (i := 3) (oi := ⟨some 33, Op.load 35 (Operand.tmp 6), _, _, _, _⟩) (v := ?vvr83) rfl (by kernel_rfl) (by kernel_rfl) (by kernel_rfl) (by kernel_rfl) (by kernel_rfl) (by kernel_rfl) (fun _ _ _ h => h) (Or.inl ⟨by rfl, ?hyr83⟩) hS0 ?restr83
          case hyr83 => ((intro w hSw; (try dsimp only at hSw); go_simp) <;> with_reducible rfl)
          try simp only [Act.put, List.setIfInBounds_toArray, List.set_cons_zero, List.set_cons_succ]
          refine RegL.wpAnyL_take (i := 4) (oi := ⟨some 34, Op.load 37 (Operand.tmp 8), _, _, _, _⟩) (v := ?vvr84) rfl (by kernel_rfl) (by kernel_rfl) (by kernel_rfl) (by kernel_rfl) (by kernel_rfl) (by kernel_rfl) (fun _ _ _ h => h) (Or.inl ⟨by rfl, ?hyr84⟩) hS0 ?restr84
          case hyr84 => ((intro w hSw; (try dsimp only at hSw); go_simp) <;> with_reducible rfl)
          try simp only [Act.put, List.setIfInBounds_toArray, List.set_cons_zero, List.set_cons_succ]
          refine RegL.wpAnyL_ready (rs := [2]) (by kernel_rfl) (by simp) ?_
          refine RegL.AllReadyL.calm (o := ⟨some 32, Op.call { callee := Callee.value (Operand.func 20), args := #[Operand.tmp 30, Operand.tmp 31], argTypes := #[30, 37] }, _, _, _, _⟩) rfl (fun K hK => ?_) RegL.AllReadyL.nil
          go_simp
          refine (HDO.out).mono ?_
          rintro e w1 ⟨v, rfl, ⟨n', p', rfl, hm⟩, hb1⟩
          have HB1r := Lib.hid hb1; have HM := Lib.hid hm; have HB1 := Lib.hid (below_trans (w1 := World.drew V) (Below.refl _ _).drew hb1)
          clear hm hb1
          (try dsimp only)
          refine hK.out _ _ (⟨⟨cell_below hS0.1.1 HB1r.out, cell_below hS0.1.2.1 HB1r.out, cell_below hS0.1.2.2.1 HB1r.out, cell_below hS0.1.2.2.2 HB1r.out⟩, ⟨cell_below hS0.2.1.1 HB1r.out, cell_below hS0.2.1.2 HB1r.out⟩, cell_below hS0.2.2.1 HB1r.out, cell_below hS0.2.2.2.1 HB1r.out, cell_below hS0.2.2.2.2 HB1r.out⟩) (fun hS0x => ?_)
          clear hK K
          try simp only [Act.put, List.setIfInBounds_toArray, List.set_cons_zero, List.set_cons_succ]
          refine RegL.wpAnyL_ready (rs := [5]) (by kernel_rfl) (by simp) ?_
          refine RegL.AllReadyL.calm (o := ⟨some 35, Op.call { callee := Callee.value (Operand.func 21), args := #[Operand.tmp 33, Operand.tmp 34], argTypes := #[35, 37] }, _, _, _, _⟩) rfl (fun K hK => ?_) RegL.AllReadyL.nil
          go_simp
          refine (HSH.out _ HB1.out).mono ?_
          rintro e w2 ⟨v, rfl, ⟨A3, n3, c3, A4, n4, c4, rfl, hr⟩, hb2⟩
          have HR := Lib.hid hr; have HB2 := Lib.hid hb2
          clear hr hb2
          have HTW := Lib.hid (two_put HT2.out HB1.out HB2.out HM.out HR.out)
          obtain ⟨⟨e0, e1, e2, e3⟩, f0, f1, f2, f3⟩ := box4 (blk_below HT2.out.1 (below_trans HB1.out HB2.out))
          obtain ⟨⟨r0, r1⟩, fr0, fr1⟩ := box2 (blk_below HT2.out.2.1 (below_trans HB1.out HB2.out))
          (try dsimp only)
          refine hK.out _ _ (⟨⟨cell_below hS0x.1.1 HB2.out, cell_below hS0x.1.2.1 HB2.out, cell_below hS0x.1.2.2.1 HB2.out, cell_below hS0x.1.2.2.2 HB2.out⟩, ⟨cell_below hS0x.2.1.1 HB2.out, cell_below hS0x.2.1.2 HB2.out⟩, cell_below hS0x.2.2.1 HB2.out, cell_below hS0x.2.2.2.1 HB2.out, cell_below hS0x.2.2.2.2 HB2.out⟩) (fun hS0xx => ?_)
          clear hK K
          try simp only [Act.put, List.setIfInBounds_toArray, List.set_cons_zero, List.set_cons_succ]
          refine RegL.wpAnyL_ready (rs := [6]) (by kernel_rfl) (by simp) ?_
          refine RegL.AllReadyL.late (o := ⟨none, Op.store 30 (Operand.tmp 5) (Operand.tmp 32), _, _, _, _⟩) rfl (by kernel_rfl) (fun K hK => ?_) RegL.AllReadyL.nil
          go_simp
          refine hK.out _ _ ?_
          clear hK K
          try simp only [Act.put, List.setIfInBounds_toArray, List.set_cons_zero, List.set_cons_succ]
          refine RegL.wpAnyL_ready (rs := [7]) (by kernel_rfl) (by simp) ?_
          refine RegL.AllReadyL.late (o := ⟨none, Op.store 35 (Operand.tmp 6) (Operand.tmp 35), _, _, _, _⟩) rfl (by kernel_rfl) (fun K hK => ?_) RegL.AllReadyL.nil
          go_simp
          refine hK.out _ _ ?_
          clear hK K
          try simp only [Act.put, List.setIfInBounds_toArray, List.set_cons_zero, List.set_cons_succ]
          refine RegL.wpAnyL_done (by kernel_rfl) ?_ _
          refine NoPanic.normal ?_
          (go_wp2_with fail)
          go_meet
          exact ⟨rfl, _, _, _, _, _, _, _, _, Lib.hid ⟨HTW.out, HFIN.out _ _ _ _ _ _ HB1.out HB2.out⟩⟩
      case rest =>
        obtain ⟨rfl, n, p, A1, n1, c1, A2, n2, c2, hh⟩ := hcut
        have HH := Lib.hid hh.out
        clear hh
        obtain ⟨⟨q0, q1, q2, q3⟩, -⟩ := box4 HH.out.1.1
        obtain ⟨⟨q4, q5⟩, -⟩ := box2 HH.out.1.2.1
        obtain ⟨⟨a0, a1⟩, -⟩ := box2 HH.out.2.1
        have hLn : (doL L (o1 o)).length ≤ i + 1 := Nat.le_trans (doL_length L _ HSR.out.1) (by omega)
        have HM1 := Lib.hid (fun V (hV : Below wc.heap.size wc V) => HMS.out (KS g) _ _ V (HH.out.1.2.2.1.below hV) (by omega) (HT.out.below (below_trans HH.out.2.2 hV)))
        have HR1 := Lib.hid (fun V (hV : Below wc.heap.size wc V) => HRS.out (doL L (o1 o)) (KS g) _ V (HH.out.1.keys.below hV) HH.out.1.srt.2 (by omega))
        generalize shapeT c 13 (doL L (o1 o)) = st at HM1 HR1
        go_wp2_with fail
        go_region_held3 (fun w' => (w'.cell? ⟨g, 0, none⟩ = some (.int .u64 y) ∧ w'.cell? ⟨g, 1, none⟩ = some (.int .i64 b) ∧ w'.cell? ⟨g, 2, none⟩ = some (.int .i64 n) ∧ w'.cell? ⟨g, 3, none⟩ = some (.pointer p)) ∧ w'.cell? ⟨g + 1, 0, none⟩ = some (.slice A1 n1 c1) ∧ w'.cell? ⟨W.heap.size, 0, none⟩ = some (.int .u64 y) ∧ w'.cell? ⟨W.heap.size, 1, none⟩ = some (.int .i64 b))
          ((refine ⟨⟨?_, ?_, ?_, ?_⟩, ?_, ?_, ?_⟩ <;> first | (with_reducible assumption) | (with_reducible exact cell_below q0 (by assumption)) | (with_reducible exact cell_below q1 (by assumption)) | (with_reducible exact cell_below q2 (by assumption)) | (with_reducible exact cell_below q3 (by assumption)) | (with_reducible exact cell_below q4 (by assumption)) | (with_reducible exact cell_below a0 (by assumption)) | (with_reducible exact cell_below a1 (by assumption)) | (go_keep; done)))
          (first
            | (go_at_call 22; (with_reducible refine (HM1.out _ (Below.refl _ _).drew).mono ?_); rintro e w5 ⟨v, rfl, rfl, hb5⟩; have hb5 := below_trans (w1 := World.drew _) (Below.refl _ _).drew hb5)
            | (go_at_call 23; (with_reducible refine (HR1.out _ hb5).mono ?_); rintro e w6 ⟨v, rfl, rfl, hb6⟩; have hb6 := below_trans hb5 hb6)
            | fail)
        have HL6 := Lib.hid (And.intro (HH.out.1.below hb6) (And.intro (blk_below HH.out.2.1 hb6) (below_trans HH.out.2.2 hb6)))
        clear hb5 hb6
        go_wp2_with fail
        go_roundg gk
        case measure => omega
        case rel =>
          show ShI _ _ _ _ _ _ _ _ _
          exact ⟨i + 1, _, _, _, _, _, by first | rfl | (push_cast; rfl), by omega, hLn, HL6.out.1, HL6.out.2.1, HL6.out.2.2⟩
    · have HB := Lib.hid hB
      clear hTw hC hB
      go_wp2_with fail
      go_returns
      exact ⟨rfl, HB.out⟩
set_option maxHeartbeats 4000000 in
theorem shapes_out (c : Cf) (v : Value) (T : Nat) (A : Option Addr) (cs : Nat) (bf : Bool) (W : World) (hv : v = .slice A T cs) (hT : Tab W) (hn : bf = false ∨ (bf = true ∧ 30 < T))
    (hf : ∀ V, Below W.heap.size W V → Calls Tryd.prog 18 #[v] V (Ret (fun u _ => u = .bool bf) V)) :
    Calls Tryd.prog 3 #[confV c, v] W (Tru W) := by
  subst hv
  have HT := Lib.hid hT; have HF := Lib.hid hf
  have HLV := Lib.hid (fun V hT => live_c V hT)
  show Calls Tryd.prog 3 #[.agg #[.int .u64 (U c.1), .int .i64 c.2], .slice A T cs] W _
  generalize U c.1 = y
  generalize c.2 = b
  clear hT hf
  rcases hn with rfl | ⟨rfl, hn⟩
  · go_enter Tryd.func3, Tryd.ntmps3
    have hB0 := (Below.refl W.heap.size W).alloc (Nat.le_refl _) (.cells #[.int .u64 y, .int .i64 b] CT)
    go_wp2_with (first
      | (go_at_call 18; ((with_reducible refine (HF.out _ HB1.out).mono ?_); rintro e w2 ⟨v, rfl, rfl, hb2⟩; have HB2 := Lib.hid (below_trans HB1.out hb2); have HX := Lib.hid hb2; clear hb2))
      | (go_at_call 17; ((with_reducible refine (HLV.out _ (HT.out.below HB2.out)).mono ?_); rintro e w3 ⟨v, rfl, rfl, hb3⟩; have HB3 := Lib.hid (below_trans HB2.out hb3); clear hb3))
      | (go_at_call 17; ((with_reducible refine (HLV.out _ (HT.out.below hB0)).mono ?_); rintro e w1 ⟨v, rfl, rfl, hb1⟩; have HB1 := Lib.hid (below_trans hB0 hb1); clear hb1))
      | fail)
    go_returns
    exact ⟨rfl, HB3.out⟩
  · have hnI : (T : Int) > 30 := by omega
    go_enter Tryd.func3, Tryd.ntmps3
    have hB0 := (Below.refl W.heap.size W).alloc (Nat.le_refl _) (.cells #[.int .u64 y, .int .i64 b] CT)
    go_wp2_with (first
      | (go_at_call 18; ((with_reducible refine (HF.out _ HB1.out).mono ?_); rintro e w2 ⟨v, rfl, rfl, hb2⟩; have HB2 := Lib.hid (below_trans HB1.out hb2); clear hb2))
      | (go_at_call 17; ((with_reducible refine (HLV.out _ (HT.out.below HB2.out)).mono ?_); rintro e w3 ⟨v, rfl, rfl, hb3⟩; have HB3 := Lib.hid (below_trans HB2.out hb3); clear hb3))
      | (go_at_call 17; ((with_reducible refine (HLV.out _ (HT.out.below hB0)).mono ?_); rintro e w1 ⟨v, rfl, rfl, hb1⟩; have HB1 := Lib.hid (below_trans hB0 hb1); clear hb1))
      | fail)
    go_returns
    exact ⟨rfl, HB3.out⟩
theorem shapes_c (c : Cf) (v : Value) (os : List S3) (W : World) (hT : Tab W) (hO : OpsV W v os) : Calls Tryd.prog 3 #[confV c, v] W (Tru W) := by
  obtain ⟨b, hb, hf⟩ := few_c v os W hO
  obtain ⟨A, cs, hv, -⟩ := id hO
  cases b with
  | false => exact shapes_out c v os.length A cs false W hv hT (Or.inl rfl) hf
  | true =>
    obtain ⟨h1, h2⟩ := hb rfl
    by_cases hl : os.length ≤ 30
    · exact shapes_in c v os W hT hO hl h2 hf
    · exact shapes_out c v os.length A cs true W hv hT (Or.inr ⟨rfl, by omega⟩) hf
end Go.Proofs.YtnegblckbomgdaaDoor.Ht
end
section
namespace Go.Proofs.YtnegblckbomgdaaDoor.Ht
set_option maxRecDepth 100000
open Go Go.RowKit Go.ChangeShapes Go.WideShapes Go.Deep Go.Joins Go.Proofs.YtnegblckbomgdaaDoor.Mem Go.Proofs.YtnegblckbomgdaaDoor.PA Go.Proofs.YtnegblckbomgdaaDoorW.PrintWords Go.Proofs.YtnegblckbomgdaaDoor.U64
abbrev theLaid : List (String × DataW Unit) := [("math/bits.deBruijn32tab", Rows.laid_math_bits_deBruijn32tab)]
theorem gTab : Tryd.prog.globalNamed "math/bits.deBruijn32tab" = some 0 := by kernel_rfl
theorem tab_data : (Rows.laid_math_bits_deBruijn32tab : DataW Unit) = .agg (Lib.deBruijn32tab.map fun (k : Nat) => .lit (.int .u8 k)) := rfl
theorem tab_of_laid {W : World} (h : laidMetH Tryd.prog theLaid W) : Tab W := by
  rw [MakeChecks.laidMetH_plain _ _ _ (by kernel_rfl)] at h
  obtain ⟨ps, ⟨g0, t0, cs0, f0, p0, q0, hg0, ht0, hv0, hd0, _, _⟩, _, _⟩ := h
  obtain rfl := Option.some.inj (gTab.symm.trans hg0)
  have ht : Tryd.prog.underlying t0 = some (.array 32 5) := by
    have e : (Tryd.prog.globals[0]?).map (·.type) = some 174 := by kernel_rfl
    obtain rfl := Option.some.inj (e.symm.trans ht0)
    exact Tryd.underlying174
  obtain ⟨xs, m1, rfl, hx1, hlen, hn3, hel⟩ := DataW.trod_array ht hd0
  have c1 : Tryd.prog.cellsOf 5 = 1 := by kernel_rfl
  intro j hj
  have hjx : j < xs.length := by omega
  have h0 := hel j hj
  rw [c1, Nat.mul_one, List.getElem?_eq_getElem hjx] at h0
  obtain ⟨k, e1, e2, _⟩ := DataW.trod_int (k := .u8) (by kernel_rfl) h0
  have hk : k = (Lib.deBruijn32tab.getD j 0 : Nat) := by
    have e3 : xs.map (·.1) = Lib.deBruijn32tab.map fun (k : Nat) => (DataW.lit (.int .u8 k) : DataW Unit) := by
      have := congrArg Prod.fst hx1
      rw [tab_data] at this
      simpa using this.symm
    have e4 := congrArg (fun l => l[j]?) e3
    have hjt : j < Lib.deBruijn32tab.length := hj
    simp only [List.getElem?_map, List.getElem?_eq_getElem hjx, List.getElem?_eq_getElem hjt, Option.map_some] at e4
    rw [e2] at e4
    rw [List.getD_eq_getElem?_getD, List.getElem?_eq_getElem hjt]
    simpa using e4
  have hc := World.var?_cell hg0 hv0 j
  rw [hc, ← Array.getElem?_toList]
  have : cs0.toList[j]? = (List.take 1 (List.drop j cs0.toList))[0]? := by simp
  rw [this, e1, hk]; rfl
theorem conf_open {H : Type} {enc : TypeId × Value → H} {w : World} {base : Nat} {spare : Nat → Bool} {held : Bool} {v : Value} {d : DataW H} {p : List MemPlace} {r : Reach} {b0 : Nat}
    (hv : Value.okWide Tryd.prog w r b0 24 v) (h : DataW.Trod enc Tryd.prog w base spare held 24 v d p) : ∃ c : Cf, v = confV c := by
  obtain ⟨c0, c1, y0, y1, m, rfl, hd, hp, g0, g1⟩ := open_agg2 Tryd.underlying24 (by kernel_rfl) (by kernel_rfl) hv h
  obtain ⟨a0, e0, _, z0⟩ := DataW.trod_int Tryd.underlying22 g0
  obtain ⟨a1, e1, _, z1⟩ := DataW.trod_int Tryd.underlying3 g1
  simp only [List.cons.injEq, and_true] at e0 e1
  subst e0; subst e1
  refine ⟨(BitVec.ofInt 64 a0, a1), ?_⟩
  have h2 : IntKind.u64.min = 0 := by decide
  have h3 : IntKind.u64.max = 18446744073709551615 := by decide
  simp [Lit.wf] at z0
  have e : U (BitVec.ofInt 64 a0) = a0 := by
    unfold U
    rw [BitVec.toNat_ofInt]
    omega
  show Value.agg #[.int .u64 a0, .int .i64 a1] = .agg #[.int .u64 (U (BitVec.ofInt 64 a0)), .int .i64 a1]
  rw [e]
theorem opsV_open {H : Type} {enc : TypeId × Value → H} {w : World} {base : Nat} {spare : Nat → Bool} {held : Bool} {v : Value} {d : DataW H} {p : List MemPlace} {r : Reach} {b0 : Nat}
    (hv : Value.okWide Tryd.prog w r b0 25 v) (h : DataW.Trod enc Tryd.prog w base spare held 25 v d p) : ∃ os, OpsV w v os := by
  have hC : Tryd.prog.cellsOf 37 = 3 := by kernel_rfl
  obtain ⟨A, len, cap, rfl⟩ := okWide_slice Tryd.underlying25 hv
  obtain ⟨fuel, hf'⟩ := h
  rcases open_slice Tryd.underlying25 hf' with ⟨hcs, _⟩ | ⟨a, l, c, m, n, D, Pl, hcs, _, hl, hm, hmm, _, hel⟩
  · simp [Value.cells] at hcs
    obtain ⟨rfl, rfl, rfl⟩ := hcs
    exact ⟨[], none, 0, rfl, by simp, rfl, by simp, fun h => absurd h (by simp)⟩
  · simp [Value.cells] at hcs
    obtain ⟨rfl, rfl, rfl⟩ := hcs
    have hlm : len ≤ m := by rw [hmm]; split <;> omega
    have hel' : ∀ i, ∃ o : S3, i < len → w.cell? (a.add (i * 3)) = some (.string o.f0) ∧ w.cell? (a.add (i * 3 + 1)) = some (.int .i64 o.f1) ∧ w.cell? (a.add (i * 3 + 2)) = some (.bool o.f2) := by
      intro i
      by_cases hil : i < len
      · obtain ⟨cs', hc, ht'⟩ := hel i (by omega)
        rw [hC] at hc
        obtain ⟨ys, n', hn', hy, hlen, hyl, hg⟩ := DataW.trod_struct Tryd.underlying37 ht'
        obtain ⟨_, hcl, hat⟩ := World.cells?_some hc
        have hone : oneCellFields Tryd.prog _ = true := (by kernel_rfl : oneCellFields Tryd.prog (match Tryd.prog.underlying 37 with | some (.struct fs) => fs | _ => #[]) = true)
        have hl3 : cs'.length = 3 := by simpa using hcl
        match cs', hl3, hat, hg with
        | [u0, u1, u2], _, hat, hg =>
          have g0 := hg 0 _ rfl
          have g1 := hg 1 _ rfl
          have g2 := hg 2 _ rfl
          rw [List.getElem?_eq_getElem (by simp at hyl; omega)] at g0 g1 g2
          obtain ⟨s, e0, _, _⟩ := DataW.trod_string (cs := [u0]) Tryd.underlying9 g0
          obtain ⟨z, e1, _, _⟩ := DataW.trod_int (cs := [u1]) Tryd.underlying3 g1
          obtain ⟨b, e2, _⟩ := DataW.trod_bool (cs := [u2]) Tryd.underlying4 g2
          simp only [List.cons.injEq, and_true] at e0 e1 e2
          subst e0; subst e1; subst e2
          refine ⟨⟨s, z, b⟩, fun _ => ⟨?_, ?_, ?_⟩⟩
          · have := hat 0 (by omega)
            rw [Go.Deep.add_add] at this
            simpa using this
          · have := hat 1 (by omega)
            rw [← Go.Deep.add_add, this]; simp
          · have := hat 2 (by omega)
            rw [← Go.Deep.add_add, this]; simp
      · exact ⟨z37, fun h => absurd h hil⟩
    obtain ⟨g, hg⟩ := Classical.axiomOfChoice hel'
    have hlen : ((List.range len).map g).length = len := by simp
    refine ⟨(List.range len).map g, some a, cap, by rw [hlen], by rw [hlen]; exact hl, ?_⟩
    rw [hlen]
    refine ⟨hlen, by unfold maxLen at hm; omega, fun hp => ⟨a, rfl, fun j x hj => ?_⟩⟩
    have hjl : j < len := by have := (List.getElem?_eq_some_iff.1 hj).1; rwa [hlen] at this
    have hx : x = g j := by
      rw [List.getElem?_map, List.getElem?_range hjl] at hj
      simpa using hj.symm
    subst hx
    obtain ⟨h0, h1, h2⟩ := hg j hjl
    refine ⟨_, rfl, k37_mk w _, fun i u hu => ?_⟩
    match i with
    | 0 => simp at hu; subst hu; exact h0
    | 1 => simp at hu; subst hu; exact h1
    | 2 => simp at hu; subst hu; exact h2
    | i + 3 => simp at hu
end Go.Proofs.YtnegblckbomgdaaDoor.Ht
end
section
namespace Go.Proofs.YtnegblckbomgdaaDoor.Ht
open Go Go.RowKit Go.Shelf Go.Proofs.YtnegblckbomgdaaDoor.Mem Go.Proofs.YtnegblckbomgdaaDoor.PA Go.Proofs.YtnegblckbomgdaaDoorW.PrintWords Go.Proofs.YtnegblckbomgdaaDoor.U64 Go.Proofs.YtnegblckbomgdaaDoor
def SameI (w : World) (m0 m1 m2 m3 s t : Value) (n k : Nat) (v26 : Value) (wr : World) : Prop :=
  ∃ j : Nat, v26 = .int .i64 (j : Int) ∧ j + k = n ∧ wr.heap[w.heap.size]? = some (.cells #[m0, m1, m2, m3] MT (0, 0)) ∧ wr.heap[w.heap.size + 1]? = some (.cells #[s, t] RT (0, 0)) ∧ Below w.heap.size w wr
theorem got_at {L : List Pr} (h : Srt L) {j : Nat} {e : Pr} (he : L[j]? = some e) : got L e.1 = .tuple #[.int .i64 e.2, .bool true] := by
  have : lkp L e.1 = some e.2 := (lkp_some h).2 (List.mem_of_getElem? he)
  unfold got
  rw [this]; rfl
set_option maxRecDepth 100000 in
set_option maxHeartbeats 8000000 in
theorem same_w (c : Cf) (K K' : Nat → Prop) (L : List Pr) (n : Nat) (y b : Int) (p : Option Addr) (A1 A2 : Option Addr) (c1 c2 : Nat) (w : World) (hn : n = L.length) (hS : Srt L) (hSm : Sm L)
    (hM : MapV c K w (.agg #[.int .u64 y, .int .i64 b, .int .i64 (n : Int), .pointer p]) L) (h1 : SlV K' w (.slice A1 n c1) (ksV L)) (h2 : SlV K' w (.slice A2 n c2) (xsV L)) (hl : L.length ≤ 1000) (hT : Tab w) :
    Calls Tryd.prog 24 #[.agg #[.int .u64 y, .int .i64 b, .int .i64 (n : Int), .pointer p], .agg #[.slice A1 n c1, .slice A2 n c2]] w (Ret (fun r _ => r = .bool true) w) := by
  have HLen := Lib.hid fun V (hw : Below w.heap.size w V) => mlen_c c K _ L V (hM.below hw)
  rw [← hn] at HLen
  have HKey := Lib.hid fun V (hw : Below w.heap.size w V) => keys_c c K _ L V (hM.below hw) hl (hT.below hw)
  have HWd := Lib.hid fun (u : Value) (J : Nat → Prop) V (hu : SlV J V u (ksV L)) (hw : Below w.heap.size w V) => words_c J K' u _ L L (by omega) V hu (h1.below hw)
  have HGet := Lib.hid fun (j : Nat) (e : Pr) (he : L[j]? = some e) V (hw : Below w.heap.size w V) => (show Calls Tryd.prog 27 #[.agg #[.int .u64 y, .int .i64 b, .int .i64 (n : Int), .pointer p], .string e.1] V (Ret (fun v _ => v = .tuple #[.int .i64 e.2, .bool true]) V) from got_at hS he ▸ mget_c c K _ L e.1 (hSm e (List.mem_of_getElem? he)) V (hM.below hw) (by omega))
  have H1 := Lib.hid h1; have H2 := Lib.hid h2; have HN := Lib.hid hn
  have hnn : (n : Int) ≤ 1000 := by omega
  simp only [decide_true] at HWd
  clear hM h1 h2 hl hT hS hSm hn
  have B0 := blk_alloc (blk_new w (.cells #[.int .u64 y, .int .i64 b, .int .i64 (n : Int), .pointer p] MT)) (.cells #[.slice A1 n c1, .slice A2 n c2] RT)
  have B1 := heap_k1 w (.cells #[.int .u64 y, .int .i64 b, .int .i64 (n : Int), .pointer p] MT) (.cells #[.slice A1 n c1, .slice A2 n c2] RT)
  have hB := ((Below.refl w.heap.size w).alloc (Nat.le_refl _) (.cells #[.int .u64 y, .int .i64 b, .int .i64 (n : Int), .pointer p] MT)).alloc (by simp) (.cells #[.slice A1 n c1, .slice A2 n c2] RT)
  have HB := Lib.hid hB; have HB0 := Lib.hid B0; have HB1 := Lib.hid B1
  clear B0 B1 hB
  go_enter Tryd.func24, Tryd.ntmps24
  go_upto_region 1 with fail
  generalize (w.alloc (.cells #[.int .u64 y, .int .i64 b, .int .i64 (n : Int), .pointer p] MT)).alloc (.cells #[.slice A1 n c1, .slice A2 n c2] RT) = V at *
  obtain ⟨⟨a0, a1, a2, a3⟩, -⟩ := box4 HB0.out
  obtain ⟨⟨r0, r1⟩, -⟩ := box2 HB1.out
  have hg : w.heap.size ≤ V.heap.size := HB.out.size
  go_region_held3 (fun w' => (w'.cell? ⟨w.heap.size, 0, none⟩ = some (.int .u64 y) ∧ w'.cell? ⟨w.heap.size, 1, none⟩ = some (.int .i64 b) ∧ w'.cell? ⟨w.heap.size, 2, none⟩ = some (.int .i64 (n : Int)) ∧ w'.cell? ⟨w.heap.size, 3, none⟩ = some (.pointer p)) ∧ w'.cell? ⟨w.heap.size + 1, 0, none⟩ = some (.slice A1 n c1))
    ((refine ⟨⟨?_, ?_, ?_, ?_⟩, ?_⟩ <;> first | (with_reducible assumption) | (with_reducible exact cell_below a0 (by assumption)) | (with_reducible exact cell_below a1 (by assumption)) | (with_reducible exact cell_below a2 (by assumption)) | (with_reducible exact cell_below a3 (by assumption)) | (with_reducible exact cell_below r0 (by assumption)) | (go_keep; done)))
    (first
      | (go_at_call 29; (with_reducible refine (HLen.out _ (HB.out.drew)).mono ?_); rintro e w5 ⟨v, rfl, rfl, hb5⟩; have hb5 := below_trans (w1 := World.drew _) (Below.refl _ _).drew hb5)
      | (go_at_call 26; (with_reducible refine (HKey.out _ (below_trans HB.out hb5)).mono ?_); rintro e w6 ⟨v, rfl, hk6, hb6⟩; have hb6 := below_trans hb5 hb6)
      | (go_at_call 30; (with_reducible refine (HWd.out _ _ _ hk6 (below_trans HB.out hb6)).mono ?_); rintro e w7 ⟨v, rfl, rfl, hb7⟩; have hb7 := below_trans hb6 hb7)
      | fail)
  have hw7 := below_trans HB.out hb7
  have HB7 := Lib.hid hw7
  have HM7 := Lib.hid (blk_below HB0.out hb7)
  have HR7 := Lib.hid (blk_below HB1.out hb7)
  clear hb5 hb6 hb7 hk6 a0 a1 a2 a3 r0 r1 hw7
  obtain ⟨⟨r0, r1⟩, -⟩ := box2 HR7.out
  go_wp2_with fail
  go_loopg [26] n (fun k v26 wr => Aside (SameI w (.int .u64 y) (.int .i64 b) (.int .i64 (n : Int)) (.pointer p) (.slice A1 n c1) (.slice A2 n c2) n k v26 wr))
  case atStart =>
    show SameI _ _ _ _ _ _ _ _ _ _ _
    exact ⟨0, rfl, by omega, HM7.out, HR7.out, HB7.out⟩
  case round =>
    obtain ⟨j, rfl, hj, BM, BR, hB⟩ := hrel.out
    clear hrel r0 r1
    by_cases hlt : j < n
    · have hltI : (j : Int) < (n : Int) := by omega
      obtain ⟨gk, rfl⟩ : ∃ g, gk = g + 1 := ⟨gk - 1, by omega⟩
      obtain ⟨e, he⟩ : ∃ e, L[j]? = some e := ⟨_, List.getElem?_eq_getElem (by rw [← HN.out]; exact hlt)⟩
      obtain ⟨ad, rfl, hk⟩ := H1.out.addr (by rw [ksV_length, ← HN.out]; omega)
      obtain ⟨ae, rfl, hx⟩ := H2.out.addr (by rw [xsV_length, ← HN.out]; omega)
      have hk := hk j (.string e.1) (by simp [ksV, he])
      have hx := hx j (.int .i64 e.2) (by simp [xsV, he])
      have hk := cell_below hk hB
      have HX := Lib.hid hx
      have HG := Lib.hid (HGet.out j e he _ hB)
      obtain ⟨⟨a0, a1, a2, a3⟩, -⟩ := box4 BM
      have HBM := Lib.hid BM; have HBR := Lib.hid BR; have HBB := Lib.hid hB
      clear BM BR hB hx he
      go_wp2_with (first
        | (go_at_call 27; ((with_reducible refine (HG.out).mono ?_); rintro e w8 ⟨v, rfl, rfl, hb8⟩; obtain ⟨⟨r0, r1⟩, -⟩ := box2 (blk_below HBR.out hb8); have hx := cell_below HX.out (below_trans HBB.out hb8); have HB8 := Lib.hid hb8; clear hb8))
        | fail)
      go_roundg gk
      case measure => omega
      case rel =>
        show SameI _ _ _ _ _ _ _ _ _ _ _
        exact ⟨j + 1, by first | rfl | (push_cast; rfl), by omega, blk_below HBM.out HB8.out, blk_below HBR.out HB8.out, below_trans HBB.out HB8.out⟩
    · have HB := Lib.hid hB
      clear BM BR hB
      go_wp2_with fail
      go_returns
      exact ⟨_, rfl, rfl, HB.out⟩
theorem same_c (c : Cf) (K K' : Nat → Prop) (v u : Value) (L : List Pr) (w : World) (hM : MapV c K w v L) (hR : RefV K' w u L) (hl : L.length ≤ 1000) (hT : Tab w) :
    Calls Tryd.prog 24 #[v, u] w (Ret (fun r _ => r = .bool true) w) := by
  have hM0 := hM
  obtain ⟨p, rfl, -, hS, hSm⟩ := hM
  obtain ⟨s, t, rfl, h1, h2⟩ := hR
  obtain ⟨A1, c1, rfl⟩ := SlV.form' h1
  obtain ⟨A2, c2, rfl⟩ := SlV.form' h2
  rw [ksV_length] at h1 ⊢
  rw [xsV_length] at h2 ⊢
  exact same_w c K K' L L.length _ _ p A1 A2 c1 c2 w rfl hS hSm hM0 h1 h2 hl hT
end Go.Proofs.YtnegblckbomgdaaDoor.Ht
end
section
namespace Go.Proofs.YtnegblckbomgdaaDoor.Ht
open Go Go.RowKit Go.Shelf Go.Proofs.YtnegblckbomgdaaDoor.Mem Go.Proofs.YtnegblckbomgdaaDoor.PA Go.Proofs.YtnegblckbomgdaaDoorW.PrintWords Go.Proofs.YtnegblckbomgdaaDoor.U64 Go.Proofs.YtnegblckbomgdaaDoor
def Bx (c : Cf) (y b : Int) (K : Nat → Prop) (gm gw : Nat) (n : Int) (p : Option Addr) (s t : Value) (L : List Pr) (wr : World) : Prop :=
  wr.heap[gm]? = some (.cells #[.int .u64 y, .int .i64 b, .int .i64 n, .pointer p] MT (0, 0)) ∧ wr.heap[gw]? = some (.cells #[s, t] RT (0, 0)) ∧
    MapV c K wr (.agg #[.int .u64 y, .int .i64 b, .int .i64 n, .pointer p]) L ∧ RefV K wr (.agg #[s, t]) L
section
variable {c : Cf} {y b : Int} {K : Nat → Prop} {gm gw hm hw : Nat} {n n' : Int} {p p' : Option Addr} {s t s' t' : Value} {L L' : List Pr} {V w w' w1 w2 : World}
theorem Bx.below (h : Bx c y b K gm gw n p s t L w) (hb : Below w.heap.size w w') : Bx c y b K gm gw n p s t L w' :=
  ⟨blk_below h.1 hb, blk_below h.2.1 hb, h.2.2.1.below hb, h.2.2.2.below hb⟩
theorem Bx.mono {K' : Nat → Prop} (h : Bx c y b K gm gw n p s t L w) (hK : ∀ b, K b → b < w.heap.size → K' b) : Bx c y b K' gm gw n p s t L w :=
  ⟨h.1, h.2.1, h.2.2.1.bound.mono fun b hb => hK b hb.1 hb.2, h.2.2.2.bound.mono fun b hb => hK b hb.1 hb.2⟩
theorem Bx.srt (h : Bx c y b K gm gw n p s t L w) : Srt L ∧ Sm L := by
  obtain ⟨p, -, -, h1, h2⟩ := h.2.2.1
  exact ⟨h1, h2⟩
theorem Bx.form (h : Bx c y b K gm gw n p s t L w) : ∃ A1 n1 c1 A2 n2 c2, s = .slice A1 n1 c1 ∧ t = .slice A2 n2 c2 := by
  obtain ⟨s', t', e, h1, h2⟩ := h.2.2.2
  simp only [Value.agg.injEq, Array.mk.injEq, List.cons.injEq, and_true] at e
  obtain ⟨rfl, rfl⟩ := e
  obtain ⟨A1, n1, c1, rfl⟩ := h1.form
  obtain ⟨A2, n2, c2, rfl⟩ := h2.form
  exact ⟨A1, n1, c1, A2, n2, c2, rfl, rfl⟩
abbrev put6 (w : World) (gm gw : Nat) (y b n : Int) (p : Option Addr) (s t : Value) : World := ((put4w w gm (.int .u64 y) (.int .i64 b) (.int .i64 n) (.pointer p)).setCell ⟨gw, 0, none⟩ s).setCell ⟨gw, 1, none⟩ t
theorem bx_put (h : Bx c y b K gm gw n p s t L V) (hne : gm ≠ gw) (n0 : ¬ K gm) (n1 : ¬ K gw) (hK : ∀ x, V.heap.size ≤ x → K x) (hb1 : Below V.heap.size V w1) (hb2 : Below w1.heap.size w1 w2)
    (hm : MapV c (New K V) w1 (.agg #[.int .u64 y, .int .i64 b, .int .i64 n', .pointer p']) L') (hr : RefV (Fresh w1) w2 (.agg #[s', t']) L') :
    Bx c y b K gm gw n' p' s' t' L' (put6 w2 gm gw y b n' p' s' t') := by
  have h12 := below_trans hb1 hb2
  have b0 := blk_below h.1 h12
  have b1 := blk_below h.2.1 h12
  have hm2 : MapV c K w2 (.agg #[.int .u64 y, .int .i64 b, .int .i64 n', .pointer p']) L' := (hm.below hb2).mono fun b hb => hb.elim id fun hb => hK b hb
  have hr2 : RefV K w2 (.agg #[s', t']) L' := hr.mono fun b hb => hK b (Nat.le_trans hb1.size hb)
  refine ⟨?_, ?_, ?_, ?_⟩
  · exact blk_far (blk_far (put4 b0) (p := ⟨gw, 0, none⟩) (show gm ≠ gw from hne) _) (p := ⟨gw, 1, none⟩) (show gm ≠ gw from hne) _
  · exact put2 (blk_far (blk_far (blk_far (blk_far b1 (p := ⟨gm, 0, none⟩) (show gw ≠ gm from hne.symm) _) (p := ⟨gm, 1, none⟩) (show gw ≠ gm from hne.symm) _) (p := ⟨gm, 2, none⟩) (show gw ≠ gm from hne.symm) _) (p := ⟨gm, 3, none⟩) (show gw ≠ gm from hne.symm) _)
  · exact mapv_far (mapv_far (mapv_far (mapv_far (mapv_far (mapv_far hm2 _ 0 _ n0) _ 1 _ n0) _ 2 _ n0) _ 3 _ n0) _ 0 _ n1) _ 1 _ n1
  · exact refv_far (refv_far (refv_far (refv_far (refv_far (refv_far hr2 _ 0 _ n0) _ 1 _ n0) _ 2 _ n0) _ 3 _ n0) _ 0 _ n1) _ 1 _ n1
theorem blk6_far {g : Nat} {cs : Array Value} {t0 : TypeId} (h : w.heap[g]? = some (.cells cs t0 (0, 0))) (h0 : g ≠ gm) (h1 : g ≠ gw) (y b n : Int) (p : Option Addr) (s t : Value) : (put6 w gm gw y b n p s t).heap[g]? = some (.cells cs t0 (0, 0)) :=
  blk_far (blk_far (blk_far (blk_far (blk_far (blk_far h (p := ⟨gm, 0, none⟩) h0 _) (p := ⟨gm, 1, none⟩) h0 _) (p := ⟨gm, 2, none⟩) h0 _) (p := ⟨gm, 3, none⟩) h0 _) (p := ⟨gw, 0, none⟩) h1 _) (p := ⟨gw, 1, none⟩) h1 _
theorem bx_far (h : Bx c y b K hm hw n p s t L w) (h0 : hm ≠ gm) (h1 : hm ≠ gw) (h2 : hw ≠ gm) (h3 : hw ≠ gw) (n0 : ¬ K gm) (n1 : ¬ K gw) (y' b' m : Int) (q : Option Addr) (u v : Value) :
    Bx c y b K hm hw n p s t L (put6 w gm gw y' b' m q u v) :=
  ⟨blk6_far h.1 h0 h1 _ _ _ _ _ _, blk6_far h.2.1 h2 h3 _ _ _ _ _ _,
    mapv_far (mapv_far (mapv_far (mapv_far (mapv_far (mapv_far h.2.2.1 _ 0 _ n0) _ 1 _ n0) _ 2 _ n0) _ 3 _ n0) _ 0 _ n1) _ 1 _ n1,
    refv_far (refv_far (refv_far (refv_far (refv_far (refv_far h.2.2.2 _ 0 _ n0) _ 1 _ n0) _ 2 _ n0) _ 3 _ n0) _ 0 _ n1) _ 1 _ n1⟩
theorem put6_below {m : Nat} {W : World} (h : Below m W w) (hm : m ≤ gm) (hw : m ≤ gw) (y b n : Int) (p : Option Addr) (s t : Value) : Below m W (put6 w gm gw y b n p s t) :=
  (((((h.setCell (p := ⟨gm, 0, none⟩) hm _).setCell (p := ⟨gm, 1, none⟩) hm _).setCell (p := ⟨gm, 2, none⟩) hm _).setCell (p := ⟨gm, 3, none⟩) hm _).setCell (p := ⟨gw, 0, none⟩) hw _).setCell (p := ⟨gw, 1, none⟩) hw _
theorem does_bx (hy : U c.1 = y) (hb : c.2 = b) (h : Bx c y b K gm gw n p s t L V) (hl : L.length ≤ 1000) (o : Op1) (hk : o.k.size ≤ 1000000) (hT : Tab V) :
    Calls Tryd.prog 20 #[.agg #[.int .u64 y, .int .i64 b, .int .i64 n, .pointer p], .agg #[.string o.k, .int .i64 o.x, .bool o.cut]] V (Ret (fun v' w' => ∃ n' p', v' = .agg #[.int .u64 y, .int .i64 b, .int .i64 n', .pointer p'] ∧ MapV c (New K V) w' (.agg #[.int .u64 y, .int .i64 b, .int .i64 n', .pointer p']) (doL L o)) V) :=
  ret_of (does_c c K _ L o hk V h.2.2.1 hl hT) fun v' w' hB hv => by
    have h0 := hv
    obtain ⟨p', rfl, -⟩ := hv
    exact ⟨_, p', by rw [← hy, ← hb], by rw [← hy, ← hb]; exact h0⟩
theorem should_bx {V' : World} (h : Bx c y b K gm gw n p s t L V) (hl : L.length ≤ 1000) (o : Op1) (hV : Below V.heap.size V V') :
    Calls Tryd.prog 21 #[.agg #[s, t], .agg #[.string o.k, .int .i64 o.x, .bool o.cut]] V' (Ret (fun v' w' => ∃ A1 n1 c1 A2 n2 c2, v' = .agg #[.slice A1 n1 c1, .slice A2 n2 c2] ∧ RefV (Fresh V') w' (.agg #[.slice A1 n1 c1, .slice A2 n2 c2]) (doL L o)) V') :=
  have hm := h.srt
  ret_of (should_c K _ L hm.1 hm.2 o V' (h.2.2.2.below hV) hl) fun v' w' hB hv => by
    have h0 := hv
    obtain ⟨s', t', rfl, h1, h2⟩ := hv
    obtain ⟨A1, n1, c1, rfl⟩ := h1.form
    obtain ⟨A2, n2, c2, rfl⟩ := h2.form
    exact ⟨A1, n1, c1, A2, n2, c2, rfl, h0⟩
def Bm (c : Cf) (y b : Int) (K : Nat → Prop) (gm gw m : Nat) (wr : World) : Prop := ∃ n p A1 n1 c1 A2 n2 c2 L, L.length ≤ m ∧ Bx c y b K gm gw n p (.slice A1 n1 c1) (.slice A2 n2 c2) L wr
theorem Bm.below {m : Nat} (h : Bm c y b K gm gw m w) (hb : Below w.heap.size w w') : Bm c y b K gm gw m w' := by
  obtain ⟨n, p, A1, n1, c1, A2, n2, c2, L, hl, h⟩ := h
  exact ⟨n, p, A1, n1, c1, A2, n2, c2, L, hl, h.below hb⟩
theorem Bm.le {m m' : Nat} (h : Bm c y b K gm gw m w) (hm : m ≤ m') : Bm c y b K gm gw m' w := by
  obtain ⟨n, p, A1, n1, c1, A2, n2, c2, L, hl, h⟩ := h
  exact ⟨n, p, A1, n1, c1, A2, n2, c2, L, Nat.le_trans hl hm, h⟩
theorem bm_far {m : Nat} (h : Bm c y b K hm hw m w) (h0 : hm ≠ gm) (h1 : hm ≠ gw) (h2 : hw ≠ gm) (h3 : hw ≠ gw) (n0 : ¬ K gm) (n1 : ¬ K gw) (y' b' m' : Int) (q : Option Addr) (u v : Value) :
    Bm c y b K hm hw m (put6 w gm gw y' b' m' q u v) := by
  obtain ⟨n, p, A1, k1, c1, A2, k2, c2, L, hl, h⟩ := h
  exact ⟨n, p, A1, k1, c1, A2, k2, c2, L, hl, bx_far h h0 h1 h2 h3 n0 n1 _ _ _ _ _ _⟩
end
end Go.Proofs.YtnegblckbomgdaaDoor.Ht
end
section
namespace Go.Proofs.YtnegblckbomgdaaDoor.Ht
open Go Go.RowKit Go.Shelf Go.Proofs.YtnegblckbomgdaaDoor.Mem Go.Proofs.YtnegblckbomgdaaDoor.PA Go.Proofs.YtnegblckbomgdaaDoorW.PrintWords Go.Proofs.YtnegblckbomgdaaDoor.U64 Go.Proofs.YtnegblckbomgdaaDoor
def P10 (g : Nat) (y b n : Int) (p : Option Addr) (wr : World) (h1 h2 : Nat) (wx : World) : Prop :=
  h1 ≠ h2 ∧ wr.heap.size ≤ h1 ∧ wr.heap.size ≤ h2 ∧ wx.heap[h1]? = some (.cells #[.int .u64 y, .int .i64 b, .int .i64 n, .pointer p] MT (0, 0)) ∧ wx.heap[h2]? = some (.cells #[.int .u64 y, .int .i64 b, .int .i64 n, .pointer p] MT (0, 0)) ∧ Below wr.heap.size wr wx
theorem p10_one (g : Nat) (y b n : Int) (p : Option Addr) (wr : World) : P10 g y b n p wr wr.heap.size (wr.heap.size + 1) ((wr.alloc (.cells #[.int .u64 y, .int .i64 b, .int .i64 n, .pointer p] MT)).alloc (.cells #[.int .u64 y, .int .i64 b, .int .i64 n, .pointer p] MT)).drew :=
  ⟨by omega, Nat.le_refl _, Nat.le_succ _, blk_alloc (blk_new wr _) _, heap_k1 wr _ _, (((Below.refl wr.heap.size wr).alloc (Nat.le_refl _) _).alloc (by simp) _).drew⟩
theorem p10_two (g : Nat) (y b n : Int) (p : Option Addr) (wr : World) : P10 g y b n p wr (wr.heap.size + 1) wr.heap.size ((wr.alloc (.cells #[.int .u64 y, .int .i64 b, .int .i64 n, .pointer p] MT)).alloc (.cells #[.int .u64 y, .int .i64 b, .int .i64 n, .pointer p] MT)).drew :=
  ⟨by omega, Nat.le_succ _, Nat.le_refl _, heap_k1 wr _ _, blk_alloc (blk_new wr _) _, (((Below.refl wr.heap.size wr).alloc (Nat.le_refl _) _).alloc (by simp) _).drew⟩
def P11 (s t : Value) (wr : World) (h1 h2 : Nat) (wx : World) : Prop :=
  h1 ≠ h2 ∧ wr.heap.size ≤ h1 ∧ wr.heap.size ≤ h2 ∧ wx.heap[h1]? = some (.cells #[s, t] RT (0, 0)) ∧ wx.heap[h2]? = some (.cells #[s, t] RT (0, 0)) ∧ Below wr.heap.size wr wx
theorem p11_one (s t : Value) (wr : World) : P11 s t wr wr.heap.size (wr.heap.size + 1) ((wr.alloc (.cells #[s, t] RT)).alloc (.cells #[s, t] RT)).drew :=
  ⟨by omega, Nat.le_refl _, Nat.le_succ _, blk_alloc (blk_new wr _) _, heap_k1 wr _ _, (((Below.refl wr.heap.size wr).alloc (Nat.le_refl _) _).alloc (by simp) _).drew⟩
theorem p11_two (s t : Value) (wr : World) : P11 s t wr (wr.heap.size + 1) wr.heap.size ((wr.alloc (.cells #[s, t] RT)).alloc (.cells #[s, t] RT)).drew :=
  ⟨by omega, Nat.le_succ _, Nat.le_refl _, heap_k1 wr _ _, blk_alloc (blk_new wr _) _, (((Below.refl wr.heap.size wr).alloc (Nat.le_refl _) _).alloc (by simp) _).drew⟩
def K6 (g h1 h2 h3 h4 : Nat) : Nat → Prop := fun x => x ≠ g ∧ x ≠ g + 1 ∧ x ≠ h1 ∧ x ≠ h2 ∧ x ≠ h3 ∧ x ≠ h4
def Dis (m g h1 h2 h3 h4 M : Nat) : Prop := m ≤ g ∧ g + 1 < h1 ∧ g + 1 < h2 ∧ h1 ≠ h2 ∧ h1 < h3 ∧ h1 < h4 ∧ h2 < h3 ∧ h2 < h4 ∧ h3 ≠ h4 ∧ h3 < M ∧ h4 < M
theorem Dis.le {m g h1 h2 h3 h4 M M' : Nat} (h : Dis m g h1 h2 h3 h4 M) (hM : M ≤ M') : Dis m g h1 h2 h3 h4 M' := by
  obtain ⟨a, b, c, d, e, f, g, h, i, j, k⟩ := h
  exact ⟨a, b, c, d, e, f, g, h, i, Nat.lt_of_lt_of_le j hM, Nat.lt_of_lt_of_le k hM⟩
theorem Dis.new {m g h1 h2 h3 h4 M : Nat} (h : Dis m g h1 h2 h3 h4 M) : ∀ x, M ≤ x → K6 g h1 h2 h3 h4 x := by
  intro x hx
  obtain ⟨a, b, c, d, e, f, g, h, i, j, k⟩ := h
  exact ⟨by omega, by omega, by omega, by omega, by omega, by omega⟩
def Six (c : Cf) (y b : Int) (W : World) (g h1 h2 h3 h4 ma mb : Nat) (w : World) : Prop :=
  Dis W.heap.size g h1 h2 h3 h4 w.heap.size ∧ Bm c y b (K6 g h1 h2 h3 h4) g (g + 1) 120 w ∧ Bm c y b (K6 g h1 h2 h3 h4) h1 h3 ma w ∧ Bm c y b (K6 g h1 h2 h3 h4) h2 h4 mb w ∧ Below W.heap.size W w
section
variable {c : Cf} {y b : Int} {W w w' V w1 w2 : World} {g h1 h2 h3 h4 ma mb : Nat}
theorem Six.below (h : Six c y b W g h1 h2 h3 h4 ma mb w) (hb : Below w.heap.size w w') : Six c y b W g h1 h2 h3 h4 ma mb w' :=
  ⟨h.1.le hb.size, h.2.1.below hb, h.2.2.1.below hb, h.2.2.2.1.below hb, below_trans h.2.2.2.2 hb⟩
theorem Six.le {ma' mb' : Nat} (h : Six c y b W g h1 h2 h3 h4 ma mb w) (ha : ma ≤ ma') (hb : mb ≤ mb') : Six c y b W g h1 h2 h3 h4 ma' mb' w :=
  ⟨h.1, h.2.1, h.2.2.1.le ha, h.2.2.2.1.le hb, h.2.2.2.2⟩
theorem six_start {n : Int} {p : Option Addr} {A1 A2 : Option Addr} {n1 n2 c1 c2 : Nat} {L : List Pr} {wr wx wz : World} (h : Two c y b g n p (.slice A1 n1 c1) (.slice A2 n2 c2) L wr) (hl : L.length ≤ 120) (hg : W.heap.size ≤ g) (hB : Below W.heap.size W wr)
    (hx : P10 g y b n p wr h1 h2 wx) (hz : P11 (.slice A1 n1 c1) (.slice A2 n2 c2) wx h3 h4 wz) : Six c y b W g h1 h2 h3 h4 120 120 wz := by
  obtain ⟨x1, x2, x3, x4, x5, x6⟩ := hx
  obtain ⟨z1, z2, z3, z4, z5, z6⟩ := hz
  have hgl : g + 1 < wr.heap.size := blk_lt h.2.1
  have e1 := blk_lt x4; have e2 := blk_lt x5; have e3 := blk_lt z4; have e4 := blk_lt z5
  have hwz := below_trans x6 z6
  have hK : ∀ x, KS g x → x < wr.heap.size → K6 g h1 h2 h3 h4 x := fun x hx hlt => ⟨hx.1, hx.2, by omega, by omega, by omega, by omega⟩
  have hm : MapV c (K6 g h1 h2 h3 h4) wr _ L := h.2.2.1.bound.mono fun x hx => hK x hx.1 hx.2
  have hr : RefV (K6 g h1 h2 h3 h4) wr _ L := h.2.2.2.bound.mono fun x hx => hK x hx.1 hx.2
  refine ⟨⟨hg, by omega, by omega, x1, by omega, by omega, by omega, by omega, z1, e3, e4⟩, ?_, ?_, ?_, below_trans hB hwz⟩
  · exact ⟨n, p, A1, n1, c1, A2, n2, c2, L, hl, blk_below h.1 hwz, blk_below h.2.1 hwz, hm.below hwz, hr.below hwz⟩
  · exact ⟨n, p, A1, n1, c1, A2, n2, c2, L, hl, blk_below x4 z6, z4, hm.below hwz, hr.below hwz⟩
  · exact ⟨n, p, A1, n1, c1, A2, n2, c2, L, hl, blk_below x5 z6, z5, hm.below hwz, hr.below hwz⟩
theorem six_a {n n' : Int} {p p' : Option Addr} {s t : Value} {A1 A2 : Option Addr} {n1 n2 c1 c2 : Nat} {L L' : List Pr} (h : Six c y b W g h1 h2 h3 h4 ma mb V) (hx : Bx c y b (K6 g h1 h2 h3 h4) h1 h3 n p s t L V) (hl : L'.length ≤ ma + 1) (hb1 : Below V.heap.size V w1) (hb2 : Below w1.heap.size w1 w2)
    (hm : MapV c (New (K6 g h1 h2 h3 h4) V) w1 (.agg #[.int .u64 y, .int .i64 b, .int .i64 n', .pointer p']) L') (hr : RefV (Fresh w1) w2 (.agg #[.slice A1 n1 c1, .slice A2 n2 c2]) L') :
    Six c y b W g h1 h2 h3 h4 (ma + 1) mb (put6 w2 h1 h3 y b n' p' (.slice A1 n1 c1) (.slice A2 n2 c2)) := by
  have h12 := below_trans hb1 hb2
  have hd := h.1
  have hK := hd.new
  obtain ⟨d1, d2, d3, d4, d5, d6, d7, d8, d9, d10, d11⟩ := hd
  have k1 : ¬ K6 g h1 h2 h3 h4 h1 := fun k => k.2.2.1 rfl
  have k3 : ¬ K6 g h1 h2 h3 h4 h3 := fun k => k.2.2.2.2.1 rfl
  have hs : (put6 w2 h1 h3 y b n' p' (.slice A1 n1 c1) (.slice A2 n2 c2)).heap.size = w2.heap.size := by simp
  refine ⟨?_, bm_far (h.2.1.below h12) (by omega) (by omega) (by omega) (by omega) k1 k3 _ _ _ _ _ _, ⟨_, _, _, _, _, _, _, _, _, hl, bx_put hx (by omega) k1 k3 hK hb1 hb2 hm hr⟩, bm_far (h.2.2.2.1.below h12) (by omega) (by omega) (by omega) (by omega) k1 k3 _ _ _ _ _ _, put6_below (below_trans h.2.2.2.2 h12) (by omega) (by omega) _ _ _ _ _ _⟩
  rw [hs]
  exact h.1.le h12.size
theorem six_b {n n' : Int} {p p' : Option Addr} {s t : Value} {A1 A2 : Option Addr} {n1 n2 c1 c2 : Nat} {L L' : List Pr} (h : Six c y b W g h1 h2 h3 h4 ma mb V) (hx : Bx c y b (K6 g h1 h2 h3 h4) h2 h4 n p s t L V) (hl : L'.length ≤ mb + 1) (hb1 : Below V.heap.size V w1) (hb2 : Below w1.heap.size w1 w2)
    (hm : MapV c (New (K6 g h1 h2 h3 h4) V) w1 (.agg #[.int .u64 y, .int .i64 b, .int .i64 n', .pointer p']) L') (hr : RefV (Fresh w1) w2 (.agg #[.slice A1 n1 c1, .slice A2 n2 c2]) L') :
    Six c y b W g h1 h2 h3 h4 ma (mb + 1) (put6 w2 h2 h4 y b n' p' (.slice A1 n1 c1) (.slice A2 n2 c2)) := by
  have h12 := below_trans hb1 hb2
  have hd := h.1
  have hK := hd.new
  obtain ⟨d1, d2, d3, d4, d5, d6, d7, d8, d9, d10, d11⟩ := hd
  have k1 : ¬ K6 g h1 h2 h3 h4 h2 := fun k => k.2.2.2.1 rfl
  have k3 : ¬ K6 g h1 h2 h3 h4 h4 := fun k => k.2.2.2.2.2 rfl
  have hs : (put6 w2 h2 h4 y b n' p' (.slice A1 n1 c1) (.slice A2 n2 c2)).heap.size = w2.heap.size := by simp
  refine ⟨?_, bm_far (h.2.1.below h12) (by omega) (by omega) (by omega) (by omega) k1 k3 _ _ _ _ _ _, bm_far (h.2.2.1.below h12) (by omega) (by omega) (by omega) (by omega) k1 k3 _ _ _ _ _ _, ⟨_, _, _, _, _, _, _, _, _, hl, bx_put hx (by omega) k1 k3 hK hb1 hb2 hm hr⟩, put6_below (below_trans h.2.2.2.2 h12) (by omega) (by omega) _ _ _ _ _ _⟩
  rw [hs]
  exact h.1.le h12.size
theorem bm_same {K : Nat → Prop} {gm gw m : Nat} (h : Bm c y b K gm gw m w) (hm : m ≤ 1000) : ∃ n p A1 n1 c1 A2 n2 c2, w.heap[gm]? = some (.cells #[.int .u64 y, .int .i64 b, .int .i64 n, .pointer p] MT (0, 0)) ∧ w.heap[gw]? = some (.cells #[.slice A1 n1 c1, .slice A2 n2 c2] RT (0, 0)) ∧
    ∀ V, Below w.heap.size w V → Tab V → Calls Tryd.prog 24 #[.agg #[.int .u64 y, .int .i64 b, .int .i64 n, .pointer p], .agg #[.slice A1 n1 c1, .slice A2 n2 c2]] V (Ret (fun r _ => r = .bool true) V) := by
  obtain ⟨n, p, A1, n1, c1, A2, n2, c2, L, hl, hx, hy, h3, h4⟩ := h
  exact ⟨n, p, A1, n1, c1, A2, n2, c2, hx, hy, fun V hV hT => same_c c K K _ _ L V (h3.below hV) (h4.below hV) (by omega) hT⟩
end
end Go.Proofs.YtnegblckbomgdaaDoor.Ht
end
