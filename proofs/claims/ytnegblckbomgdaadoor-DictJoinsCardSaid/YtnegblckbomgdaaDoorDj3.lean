/- Laws of the maps' code and of the words it uses, gathered out of the printed and own texts; no conditions. -/
import Derived.Test.YtnegblckbomgdaaDoorDj2
import Derived.Deep.DeepCutAuto
import Derived.Test.YtnegblckbomgdaaDoorDj1
import Derived.Deep.Slices
import Derived.Deep.Fields
import Derived.ChangeSame
import Derived.OpenShut
import Derived.MakeChecks
import Derived.FnData
import Derived.Lib.SmallJoins
set_option linter.unusedVariables false
set_option linter.unusedSimpArgs false
section
namespace Go.Proofs.YtnegblckbomgdaaDoor.Ht
open Go Go.RowKit Go.Shelf Go.Proofs.YtnegblckbomgdaaDoor.Mem Go.Proofs.YtnegblckbomgdaaDoor.PA Go.Proofs.YtnegblckbomgdaaDoorW.PrintWords Go.Proofs.YtnegblckbomgdaaDoor.U64 Go.Proofs.YtnegblckbomgdaaDoor.Bs Go.Proofs.YtnegblckbomgdaaDoor
def onlyL (q : ByteArray → Bool) (L : List Pr) (i : Nat) : List Pr := (L.take i).filter (fun e => q e.1) ++ L.drop i
theorem only_zero (q : ByteArray → Bool) (L : List Pr) : onlyL q L 0 = L := by simp [onlyL]
theorem only_end (q : ByteArray → Bool) (L : List Pr) (i : Nat) (h : L.length ≤ i) : onlyL q L i = L.filter fun e => q e.1 := by
  unfold onlyL; rw [List.take_of_length_le h, List.drop_eq_nil_of_le h, List.append_nil]
theorem only_len (q : ByteArray → Bool) (L : List Pr) (i : Nat) : (onlyL q L i).length ≤ L.length := by
  unfold onlyL
  rw [List.length_append]
  have h1 := List.length_filter_le (fun e : Pr => q e.1) (L.take i)
  have h2 : (L.take i).length + (L.drop i).length = L.length := by rw [← List.length_append, List.take_append_drop]
  omega
theorem only_true {q : ByteArray → Bool} {L : List Pr} {i : Nat} {e : Pr} (he : L[i]? = some e) (h : q e.1 = true) : onlyL q L (i + 1) = onlyL q L i := by
  obtain ⟨hi, hie⟩ := List.getElem?_eq_some_iff.1 he
  unfold onlyL
  rw [List.take_add_one, he, List.drop_eq_getElem_cons hi, hie, List.filter_append]
  simp [h]
theorem only_false {q : ByteArray → Bool} {L : List Pr} (hS : Srt L) {i : Nat} {e : Pr} (he : L[i]? = some e) (h : q e.1 = false) : onlyL q L (i + 1) = del (onlyL q L i) e.1 := by
  obtain ⟨hi, hie⟩ := List.getElem?_eq_some_iff.1 he
  have hsp : L = L.take i ++ e :: L.drop (i + 1) := by
    have := List.take_append_drop i L
    rw [List.drop_eq_getElem_cons hi, hie] at this
    exact this.symm
  have hpw := List.pairwise_append.1 (hsp ▸ hS : Srt (L.take i ++ e :: L.drop (i + 1)))
  unfold onlyL del
  rw [List.take_add_one, he, List.drop_eq_getElem_cons hi, hie, List.filter_append, List.filter_append, List.filter_cons]
  have h1 : ((L.take i).filter fun e => q e.1).filter (fun x => decide (x.1 ≠ e.1)) = (L.take i).filter fun e => q e.1 := List.filter_eq_self.2 fun x hx => by
    have := hpw.2.2 x (List.mem_filter.1 hx).1 e (List.mem_cons_self ..)
    simpa using klt_ne this
  have h2 : (L.drop (i + 1)).filter (fun x => decide (x.1 ≠ e.1)) = L.drop (i + 1) := List.filter_eq_self.2 fun x hx => by
    have := (List.pairwise_cons.1 hpw.2.1).1 x hx
    simpa using fun e' => klt_ne this e'.symm
  rw [h1, h2]
  simp [h]
section
variable {c : Cf} {y b : Int} {g : Nat} {w V0 V w1 wr : World} {n n' : Int} {p p' : Option Addr} {L L' : List Pr} {K : Nat → Prop}
def KO (K : Nat → Prop) (m s : Nat) : Nat → Prop := fun x => (K x ∧ x < m) ∨ s ≤ x
def OneK (K : Nat → Prop) (c : Cf) (y b : Int) (g : Nat) (w V0 : World) (n : Int) (p : Option Addr) (L : List Pr) (wr : World) : Prop :=
  wr.heap[g]? = some (.cells #[.int .u64 y, .int .i64 b, .int .i64 n, .pointer p] MT (0, 0)) ∧ (∀ x, x ≠ g → x < V0.heap.size → wr.heap[x]? = V0.heap[x]?) ∧
    MapV c (KO K w.heap.size V0.heap.size) wr (.agg #[.int .u64 y, .int .i64 b, .int .i64 n, .pointer p]) L ∧ Below w.heap.size w wr ∧ V0.heap.size ≤ wr.heap.size
theorem OneK.below (h : OneK K c y b g w V0 n p L wr) (hb : Below wr.heap.size wr w1) : OneK K c y b g w V0 n p L w1 :=
  ⟨blk_below h.1 hb, fun x h1 h2 => (hb.block x (Nat.lt_of_lt_of_le h2 h.2.2.2.2)).trans (h.2.1 x h1 h2), h.2.2.1.below hb, below_trans h.2.2.2.1 hb, Nat.le_trans h.2.2.2.2 hb.size⟩
theorem OneK.srt (h : OneK K c y b g w V0 n p L wr) : Srt L ∧ Sm L := by
  obtain ⟨p, -, -, h1, h2⟩ := h.2.2.1
  exact ⟨h1, h2⟩
theorem onek_start (hM : MapV c K w (.agg #[.int .u64 y, .int .i64 b, .int .i64 n, .pointer p]) L) (hb : Below w.heap.size w V0) (hg : V0.heap[g]? = some (.cells #[.int .u64 y, .int .i64 b, .int .i64 n, .pointer p] MT (0, 0))) : OneK K c y b g w V0 n p L V0 :=
  ⟨hg, fun _ _ _ => rfl, (hM.bound.below hb).mono fun x hx => Or.inl hx, hb, Nat.le_refl _⟩
theorem onek_put (h : OneK K c y b g w V0 n p L V) (hg : w.heap.size ≤ g) (hgV : g < V0.heap.size) (h1 : Below V.heap.size V w1) (hm : MapV c (New (KO K w.heap.size V0.heap.size) V) w1 (.agg #[.int .u64 y, .int .i64 b, .int .i64 n', .pointer p']) L') :
    OneK K c y b g w V0 n' p' L' (put4w w1 g (.int .u64 y) (.int .i64 b) (.int .i64 n') (.pointer p')) := by
  have hn : ¬ KO K w.heap.size V0.heap.size g := fun h => by rcases h with h | h <;> omega
  have hm2 : MapV c (KO K w.heap.size V0.heap.size) w1 (.agg #[.int .u64 y, .int .i64 b, .int .i64 n', .pointer p']) L' := hm.mono fun x hx => hx.elim id fun hx => Or.inr (Nat.le_trans h.2.2.2.2 hx)
  have hB := below_trans h.2.2.2.1 h1
  refine ⟨put4 (blk_below h.1 h1), fun x hx hl => ?_, mapv_far (mapv_far (mapv_far (mapv_far hm2 _ 0 _ hn) _ 1 _ hn) _ 2 _ hn) _ 3 _ hn, (((hB.setCell (p := ⟨g, 0, none⟩) hg _).setCell (p := ⟨g, 1, none⟩) hg _).setCell (p := ⟨g, 2, none⟩) hg _).setCell (p := ⟨g, 3, none⟩) hg _, ?_⟩
  · rw [Below.heap_setCell _ _ _ _ hx, Below.heap_setCell _ _ _ _ hx, Below.heap_setCell _ _ _ _ hx, Below.heap_setCell _ _ _ _ hx]
    exact (h1.block x (Nat.lt_of_lt_of_le hl h.2.2.2.2)).trans (h.2.1 x hx hl)
  · have := Nat.le_trans h.2.2.2.2 h1.size
    simpa using this
def GivesK (K : Nat → Prop) (c : Cf) (y b : Int) (L : List Pr) (w0 : World) (u : Value) (w : World) : Prop := ∃ (n : Int) (p : Option Addr), u = .agg #[.int .u64 y, .int .i64 b, .int .i64 n, .pointer p] ∧ MapV c (New K w0) w (.agg #[.int .u64 y, .int .i64 b, .int .i64 n, .pointer p]) L
theorem put_end {r : Nat} {e0 e1 e2 e3 : Value} (hM : MapV c K V (.agg #[.int .u64 y, .int .i64 b, .int .i64 n, .pointer p]) L) (hb : Below w.heap.size w V) (hr : w.heap.size ≤ r) (hV : V.heap[r]? = some (.cells #[e0, e1, e2, e3] MT (0, 0))) (hn : ¬ K r) :
    (put4w V r (.int .u64 y) (.int .i64 b) (.int .i64 n) (.pointer p)).heap[r]? = some (.cells #[.int .u64 y, .int .i64 b, .int .i64 n, .pointer p] MT (0, 0)) ∧
      MapV c K (put4w V r (.int .u64 y) (.int .i64 b) (.int .i64 n) (.pointer p)) (.agg #[.int .u64 y, .int .i64 b, .int .i64 n, .pointer p]) L ∧ Below w.heap.size w (put4w V r (.int .u64 y) (.int .i64 b) (.int .i64 n) (.pointer p)) :=
  ⟨put4 hV, mapv_far (mapv_far (mapv_far (mapv_far hM _ 0 _ hn) _ 1 _ hn) _ 2 _ hn) _ 3 _ hn, (((hb.setCell (p := ⟨r, 0, none⟩) hr _).setCell (p := ⟨r, 1, none⟩) hr _).setCell (p := ⟨r, 2, none⟩) hr _).setCell (p := ⟨r, 3, none⟩) hr _⟩
theorem slv_f1 {v : Value} {xs : List Value} (h : SlV K w v xs) (g i : Nat) (u : Value) (hn : ¬ K g) : SlV K (w.setCell ⟨g, i, none⟩ u) v xs := h.keep fun b hb _ => Below.heap_setCell _ _ _ _ (fun e => hn (by subst e; exact hb))
theorem slv_f4 {v : Value} {xs : List Value} (h : SlV K w v xs) (hn : ¬ K g) (a b e f : Value) : SlV K (put4w w g a b e f) v xs := slv_f1 (slv_f1 (slv_f1 (slv_f1 h _ 0 _ hn) _ 1 _ hn) _ 2 _ hn) _ 3 _ hn
end
def OnI (K : Nat → Prop) (c : Cf) (y b : Int) (w V0 : World) (q : ByteArray → Bool) (L : List Pr) (kv : Value) (N k : Nat) (v10 : Value) (wr : World) (_u : Unit) : Prop :=
  ∃ (i : Nat) (n : Int) (p : Option Addr), v10 = .int .i64 (i : Int) ∧ i + k = N ∧ OneK K c y b w.heap.size w V0 n p (onlyL q L i) wr ∧ SlV (fun x => x ≠ w.heap.size) wr kv (ksV L)
set_option maxRecDepth 100000 in
set_option maxHeartbeats 8000000 in
theorem only_m (c : Cf) (K : Nat → Prop) (L : List Pr) (y b n : Int) (p : Option Addr) (g0 : Nat) (q : ByteArray → Bool) (w : World) (hy : U c.1 = y) (hb : c.2 = b) (hM : MapV c K w (.agg #[.int .u64 y, .int .i64 b, .int .i64 n, .pointer p]) L) (hl : L.length ≤ 1000) (hT : Tab w)
    (hq : ∀ (k : ByteArray) V, k.size ≤ 1000000 → Below w.heap.size w V → Calls Tryd.prog 92 #[.string k, .pointer (some ⟨g0, 0, none⟩)] V (Ret (fun u _ => u = .bool (q k)) V)) :
    Calls Tryd.prog 91 #[.agg #[.int .u64 y, .int .i64 b, .int .i64 n, .pointer p], .func (.func 92) #[] #[.pointer (some ⟨g0, 0, none⟩)]] w (Ret (fun u w' => GivesK K c y b (L.filter fun e => q e.1) w u w') w) := by
  obtain ⟨-, -, -, -, -, -, hS, hSm⟩ := mform hM
  have HT := Lib.hid hT; have HQ := Lib.hid hq; have HY := Lib.hid hy; have HBE := Lib.hid hb
  obtain ⟨N, hN⟩ : ∃ N, N = L.length := ⟨_, rfl⟩
  have HN := Lib.hid hN
  have hB0 := ((Below.refl w.heap.size w).alloc (Nat.le_refl _) (.cells #[.int .u64 y, .int .i64 b, .int .i64 n, .pointer p] MT)).alloc (by simp) (.cells #[.int .u64 0, .int .i64 0, .int .i64 0, .pointer none] MT)
  have HO0 := Lib.hid (onek_start hM hB0 (blk_alloc (blk_new w (.cells #[.int .u64 y, .int .i64 b, .int .i64 n, .pointer p] MT)) (.cells #[.int .u64 0, .int .i64 0, .int .i64 0, .pointer none] MT)))
  have HR := Lib.hid (heap_k1 w (.cells #[.int .u64 y, .int .i64 b, .int .i64 n, .pointer p] MT) (.cells #[.int .u64 0, .int .i64 0, .int .i64 0, .pointer none] MT))
  have hsz : ((w.alloc (.cells #[.int .u64 y, .int .i64 b, .int .i64 n, .pointer p] MT)).alloc (.cells #[.int .u64 0, .int .i64 0, .int .i64 0, .pointer none] MT)).heap.size = w.heap.size + 1 + 1 := by simp
  have HSZ := Lib.hid hsz
  have HKY := Lib.hid (fun V (hV : Below w.heap.size w V) => keys_c c K _ L V (hM.below hV) hl (hT.below hV))
  obtain ⟨⟨a0, a1, a2, a3⟩, -⟩ := box4 HO0.out.1
  have HS := Lib.hid hS; have HSM := Lib.hid hSm; have HL := Lib.hid hl; have HB0 := Lib.hid hB0
  have hNI : (N : Int) ≤ 1000 := by omega
  clear hT hq hy hb hM hB0 hsz hN hS hSm
  go_enter Tryd.func91, Tryd.ntmps91
  go_wp2_with (first
    | (go_at_call 26; ((with_reducible refine (HKY.out _ HB0.out).mono ?_); rintro e w6 ⟨v, rfl, hs, hb⟩; obtain ⟨Ak, ck, he⟩ := SlV.form' hs; rw [ksV_length, ← HN.out] at he; subst he; have H6 := Lib.hid (HO0.out.below hb); have HS6 := Lib.hid (hs.mono (K' := fun x => x ≠ w.heap.size) (fun x hx e => by have h9 := HSZ.out; subst e; have : ((w.alloc (.cells #[.int .u64 y, .int .i64 b, .int .i64 n, .pointer p] MT)).alloc (.cells #[.int .u64 0, .int .i64 0, .int .i64 0, .pointer none] MT)).heap.size ≤ w.heap.size := hx; omega)); clear hs hb))
    | fail)
  clear a0 a1 a2 a3 HKY
  generalize (w.alloc (.cells #[.int .u64 y, .int .i64 b, .int .i64 n, .pointer p] MT)).alloc (.cells #[.int .u64 0, .int .i64 0, .int .i64 0, .pointer none] MT) = V0 at *
  go_loopg [10] N (fun k v10 wr => Aside (OnI K c y b w V0 q L (.slice Ak N ck) N k v10 wr ()))
  case atStart =>
    show OnI _ _ _ _ _ _ _ _ _ _ _ _ _ _
    exact ⟨0, _, _, rfl, by omega, by rw [only_zero]; exact H6.out, HS6.out⟩
  case round =>
    obtain ⟨i, n, p, rfl, hik, hO, hsl⟩ := hrel.out
    clear hrel H6 HS6 HO0
    have hll : (onlyL q L i).length ≤ 1000 := Nat.le_trans (only_len q L i) HL.out
    by_cases hlt : i < N
    · have hltI : (i : Int) < (N : Int) := by omega
      obtain ⟨gk, rfl⟩ : ∃ g, gk = g + 1 := ⟨gk - 1, by omega⟩
      obtain ⟨⟨ek, ex⟩, he⟩ : ∃ e, L[i]? = some e := ⟨_, List.getElem?_eq_getElem (by rw [← HN.out]; exact hlt)⟩
      have HSL := Lib.hid hsl
      obtain ⟨ad, rfl, hkc⟩ := hsl.addr (by rw [ksV_length, ← HN.out]; omega)
      have hkc := hkc i (.string ek) (by simp [ksV, he])
      have hes : ek.size ≤ 1000000 := HSM.out _ (List.mem_of_getElem? he)
      have HOV := Lib.hid hO
      have HQE := Lib.hid (HQ.out ek wr hes hO.2.2.2.1)
      cases hqv : q ek with
      | true =>
        rw [hqv] at HQE
        have hst := only_true (q := q) he hqv
        have HST := Lib.hid hst
        clear hO he hsl hst
        go_wp2_with (first
          | (go_at_call 92; ((with_reducible refine (HQE.out).mono ?_); rintro e w8 ⟨v, rfl, rfl, hb⟩; have H8 := Lib.hid (HOV.out.below hb); have HS8 := Lib.hid (HSL.out.below hb); clear hb))
          | fail)
        go_roundg gk
        case measure => omega
        case rel =>
          show OnI _ _ _ _ _ _ _ _ _ _ _ _ _ _
          exact ⟨i + 1, _, _, by first | rfl | (push_cast; rfl), by omega, by rw [HST.out]; exact H8.out, HS8.out⟩
      | false =>
        rw [hqv] at HQE
        have hst := only_false (q := q) HS.out he hqv
        have HST := Lib.hid hst
        have HCT := Lib.hid fun V (hV : Below wr.heap.size wr V) => cuts_mv HY.out HBE.out (HOV.out.2.2.1.below hV) hll ek hes (HT.out.below (below_trans HOV.out.2.2.2.1 hV))
        clear hO he hsl hst
        go_wp2_with (first
          | (go_at_call 92; ((with_reducible refine (HQE.out).mono ?_); rintro e w8 ⟨v, rfl, rfl, hb⟩; have H8 := Lib.hid (HOV.out.below hb); have HS8 := Lib.hid (HSL.out.below hb); have HB8 := Lib.hid hb; obtain ⟨⟨q0, q1, q2, q3⟩, -⟩ := box4 H8.out.1; clear hb))
          | (go_at_call 28; ((with_reducible refine (HCT.out _ HB8.out).mono ?_); rintro e w9 ⟨v, rfl, ⟨m', q', rfl, hm⟩, hb1⟩; have HP := Lib.hid (onek_put H8.out (Nat.le_refl _) (by have := HSZ.out; omega) hb1 hm); have HS9 := Lib.hid (slv_f4 (HS8.out.below hb1) (fun k => k rfl) (.int .u64 y) (.int .i64 b) (.int .i64 m') (.pointer q')); obtain ⟨⟨e0, e1, e2, e3⟩, f0, f1, f2, f3⟩ := box4 (blk_below H8.out.1 hb1); clear hm hb1))
          | fail)
        go_roundg gk
        case measure => omega
        case rel =>
          show OnI _ _ _ _ _ _ _ _ _ _ _ _ _ _
          exact ⟨i + 1, _, _, by first | rfl | (push_cast; rfl), by omega, by rw [HST.out]; exact HP.out, HS9.out⟩
    · rw [only_end q L i (by have := HN.out; omega)] at hO
      have hrb := (hO.2.1 (w.heap.size + 1) (by omega) (by have := HSZ.out; omega)).trans HR.out
      have HE := Lib.hid (put_end hO.2.2.1 hO.2.2.2.1 (r := w.heap.size + 1) (by omega) hrb (fun h => by have := HSZ.out; rcases h with h | h <;> omega))
      have HVS := Lib.hid hO.2.2.2.2
      obtain ⟨⟨q0, q1, q2, q3⟩, -⟩ := box4 hO.1
      obtain ⟨⟨e0, e1, e2, e3⟩, f0, f1, f2, f3⟩ := box4 hrb
      clear hO hsl hll hrb
      go_wp2_with fail
      refine bodyPost_ret (results_c1 rfl _ _ (w.heap.size + 1) MT #[.int .u64 y, .int .i64 b, .int .i64 n, .pointer p] (0, 0) _ rfl HE.out.1 Tryd.underlying30 rfl (by kernel_rfl)) rfl ?_
      exact ⟨_, rfl, ⟨_, _, rfl, HE.out.2.1.mono fun x hx => hx.elim (fun h => Or.inl h.1) fun h => Or.inr (by have := HSZ.out; omega)⟩, HE.out.2.2⟩
set_option maxRecDepth 100000 in
set_option maxHeartbeats 8000000 in
theorem only_l (c : Cf) (K : Nat → Prop) (L : List Pr) (y b n : Int) (p : Option Addr) (g0 : Nat) (q : ByteArray → Bool) (w : World) (hy : U c.1 = y) (hb : c.2 = b) (hM : MapV c K w (.agg #[.int .u64 y, .int .i64 b, .int .i64 n, .pointer p]) L) (hl : L.length ≤ 1000) (hT : Tab w)
    (hq : ∀ (k : ByteArray) V, k.size ≤ 1000000 → Below w.heap.size w V → Calls Tryd.prog 93 #[.string k, .pointer (some ⟨g0, 0, none⟩)] V (Ret (fun u _ => u = .bool (q k)) V)) :
    Calls Tryd.prog 91 #[.agg #[.int .u64 y, .int .i64 b, .int .i64 n, .pointer p], .func (.func 93) #[] #[.pointer (some ⟨g0, 0, none⟩)]] w (Ret (fun u w' => GivesK K c y b (L.filter fun e => q e.1) w u w') w) := by
  obtain ⟨-, -, -, -, -, -, hS, hSm⟩ := mform hM
  have HT := Lib.hid hT; have HQ := Lib.hid hq; have HY := Lib.hid hy; have HBE := Lib.hid hb
  obtain ⟨N, hN⟩ : ∃ N, N = L.length := ⟨_, rfl⟩
  have HN := Lib.hid hN
  have hB0 := ((Below.refl w.heap.size w).alloc (Nat.le_refl _) (.cells #[.int .u64 y, .int .i64 b, .int .i64 n, .pointer p] MT)).alloc (by simp) (.cells #[.int .u64 0, .int .i64 0, .int .i64 0, .pointer none] MT)
  have HO0 := Lib.hid (onek_start hM hB0 (blk_alloc (blk_new w (.cells #[.int .u64 y, .int .i64 b, .int .i64 n, .pointer p] MT)) (.cells #[.int .u64 0, .int .i64 0, .int .i64 0, .pointer none] MT)))
  have HR := Lib.hid (heap_k1 w (.cells #[.int .u64 y, .int .i64 b, .int .i64 n, .pointer p] MT) (.cells #[.int .u64 0, .int .i64 0, .int .i64 0, .pointer none] MT))
  have hsz : ((w.alloc (.cells #[.int .u64 y, .int .i64 b, .int .i64 n, .pointer p] MT)).alloc (.cells #[.int .u64 0, .int .i64 0, .int .i64 0, .pointer none] MT)).heap.size = w.heap.size + 1 + 1 := by simp
  have HSZ := Lib.hid hsz
  have HKY := Lib.hid (fun V (hV : Below w.heap.size w V) => keys_c c K _ L V (hM.below hV) hl (hT.below hV))
  obtain ⟨⟨a0, a1, a2, a3⟩, -⟩ := box4 HO0.out.1
  have HS := Lib.hid hS; have HSM := Lib.hid hSm; have HL := Lib.hid hl; have HB0 := Lib.hid hB0
  have hNI : (N : Int) ≤ 1000 := by omega
  clear hT hq hy hb hM hB0 hsz hN hS hSm
  go_enter Tryd.func91, Tryd.ntmps91
  go_wp2_with (first
    | (go_at_call 26; ((with_reducible refine (HKY.out _ HB0.out).mono ?_); rintro e w6 ⟨v, rfl, hs, hb⟩; obtain ⟨Ak, ck, he⟩ := SlV.form' hs; rw [ksV_length, ← HN.out] at he; subst he; have H6 := Lib.hid (HO0.out.below hb); have HS6 := Lib.hid (hs.mono (K' := fun x => x ≠ w.heap.size) (fun x hx e => by have h9 := HSZ.out; subst e; have : ((w.alloc (.cells #[.int .u64 y, .int .i64 b, .int .i64 n, .pointer p] MT)).alloc (.cells #[.int .u64 0, .int .i64 0, .int .i64 0, .pointer none] MT)).heap.size ≤ w.heap.size := hx; omega)); clear hs hb))
    | fail)
  clear a0 a1 a2 a3 HKY
  generalize (w.alloc (.cells #[.int .u64 y, .int .i64 b, .int .i64 n, .pointer p] MT)).alloc (.cells #[.int .u64 0, .int .i64 0, .int .i64 0, .pointer none] MT) = V0 at *
  go_loopg [10] N (fun k v10 wr => Aside (OnI K c y b w V0 q L (.slice Ak N ck) N k v10 wr ()))
  case atStart =>
    show OnI _ _ _ _ _ _ _ _ _ _ _ _ _ _
    exact ⟨0, _, _, rfl, by omega, by rw [only_zero]; exact H6.out, HS6.out⟩
  case round =>
    obtain ⟨i, n, p, rfl, hik, hO, hsl⟩ := hrel.out
    clear hrel H6 HS6 HO0
    have hll : (onlyL q L i).length ≤ 1000 := Nat.le_trans (only_len q L i) HL.out
    by_cases hlt : i < N
    · have hltI : (i : Int) < (N : Int) := by omega
      obtain ⟨gk, rfl⟩ : ∃ g, gk = g + 1 := ⟨gk - 1, by omega⟩
      obtain ⟨⟨ek, ex⟩, he⟩ : ∃ e, L[i]? = some e := ⟨_, List.getElem?_eq_getElem (by rw [← HN.out]; exact hlt)⟩
      have HSL := Lib.hid hsl
      obtain ⟨ad, rfl, hkc⟩ := hsl.addr (by rw [ksV_length, ← HN.out]; omega)
      have hkc := hkc i (.string ek) (by simp [ksV, he])
      have hes : ek.size ≤ 1000000 := HSM.out _ (List.mem_of_getElem? he)
      have HOV := Lib.hid hO
      have HQE := Lib.hid (HQ.out ek wr hes hO.2.2.2.1)
      cases hqv : q ek with
      | true =>
        rw [hqv] at HQE
        have hst := only_true (q := q) he hqv
        have HST := Lib.hid hst
        clear hO he hsl hst
        go_wp2_with (first
          | (go_at_call 93; ((with_reducible refine (HQE.out).mono ?_); rintro e w8 ⟨v, rfl, rfl, hb⟩; have H8 := Lib.hid (HOV.out.below hb); have HS8 := Lib.hid (HSL.out.below hb); clear hb))
          | fail)
        go_roundg gk
        case measure => omega
        case rel =>
          show OnI _ _ _ _ _ _ _ _ _ _ _ _ _ _
          exact ⟨i + 1, _, _, by first | rfl | (push_cast; rfl), by omega, by rw [HST.out]; exact H8.out, HS8.out⟩
      | false =>
        rw [hqv] at HQE
        have hst := only_false (q := q) HS.out he hqv
        have HST := Lib.hid hst
        have HCT := Lib.hid fun V (hV : Below wr.heap.size wr V) => cuts_mv HY.out HBE.out (HOV.out.2.2.1.below hV) hll ek hes (HT.out.below (below_trans HOV.out.2.2.2.1 hV))
        clear hO he hsl hst
        go_wp2_with (first
          | (go_at_call 93; ((with_reducible refine (HQE.out).mono ?_); rintro e w8 ⟨v, rfl, rfl, hb⟩; have H8 := Lib.hid (HOV.out.below hb); have HS8 := Lib.hid (HSL.out.below hb); have HB8 := Lib.hid hb; obtain ⟨⟨q0, q1, q2, q3⟩, -⟩ := box4 H8.out.1; clear hb))
          | (go_at_call 28; ((with_reducible refine (HCT.out _ HB8.out).mono ?_); rintro e w9 ⟨v, rfl, ⟨m', q', rfl, hm⟩, hb1⟩; have HP := Lib.hid (onek_put H8.out (Nat.le_refl _) (by have := HSZ.out; omega) hb1 hm); have HS9 := Lib.hid (slv_f4 (HS8.out.below hb1) (fun k => k rfl) (.int .u64 y) (.int .i64 b) (.int .i64 m') (.pointer q')); obtain ⟨⟨e0, e1, e2, e3⟩, f0, f1, f2, f3⟩ := box4 (blk_below H8.out.1 hb1); clear hm hb1))
          | fail)
        go_roundg gk
        case measure => omega
        case rel =>
          show OnI _ _ _ _ _ _ _ _ _ _ _ _ _ _
          exact ⟨i + 1, _, _, by first | rfl | (push_cast; rfl), by omega, by rw [HST.out]; exact HP.out, HS9.out⟩
    · rw [only_end q L i (by have := HN.out; omega)] at hO
      have hrb := (hO.2.1 (w.heap.size + 1) (by omega) (by have := HSZ.out; omega)).trans HR.out
      have HE := Lib.hid (put_end hO.2.2.1 hO.2.2.2.1 (r := w.heap.size + 1) (by omega) hrb (fun h => by have := HSZ.out; rcases h with h | h <;> omega))
      have HVS := Lib.hid hO.2.2.2.2
      obtain ⟨⟨q0, q1, q2, q3⟩, -⟩ := box4 hO.1
      obtain ⟨⟨e0, e1, e2, e3⟩, f0, f1, f2, f3⟩ := box4 hrb
      clear hO hsl hll hrb
      go_wp2_with fail
      refine bodyPost_ret (results_c1 rfl _ _ (w.heap.size + 1) MT #[.int .u64 y, .int .i64 b, .int .i64 n, .pointer p] (0, 0) _ rfl HE.out.1 Tryd.underlying30 rfl (by kernel_rfl)) rfl ?_
      exact ⟨_, rfl, ⟨_, _, rfl, HE.out.2.1.mono fun x hx => hx.elim (fun h => Or.inl h.1) fun h => Or.inr (by have := HSZ.out; omega)⟩, HE.out.2.2⟩
set_option maxRecDepth 100000 in
set_option maxHeartbeats 8000000 in
theorem only_b (c : Cf) (K : Nat → Prop) (L : List Pr) (y b n : Int) (p : Option Addr) (g0 g1 : Nat) (q : ByteArray → Bool) (w : World) (hy : U c.1 = y) (hb : c.2 = b) (hM : MapV c K w (.agg #[.int .u64 y, .int .i64 b, .int .i64 n, .pointer p]) L) (hl : L.length ≤ 1000) (hT : Tab w)
    (hq : ∀ (k : ByteArray) V, k.size ≤ 1000000 → Below w.heap.size w V → Calls Tryd.prog 95 #[.string k, .pointer (some ⟨g0, 0, none⟩), .pointer (some ⟨g1, 0, none⟩)] V (Ret (fun u _ => u = .bool (q k)) V)) :
    Calls Tryd.prog 91 #[.agg #[.int .u64 y, .int .i64 b, .int .i64 n, .pointer p], .func (.func 95) #[] #[.pointer (some ⟨g0, 0, none⟩), .pointer (some ⟨g1, 0, none⟩)]] w (Ret (fun u w' => GivesK K c y b (L.filter fun e => q e.1) w u w') w) := by
  obtain ⟨-, -, -, -, -, -, hS, hSm⟩ := mform hM
  have HT := Lib.hid hT; have HQ := Lib.hid hq; have HY := Lib.hid hy; have HBE := Lib.hid hb
  obtain ⟨N, hN⟩ : ∃ N, N = L.length := ⟨_, rfl⟩
  have HN := Lib.hid hN
  have hB0 := ((Below.refl w.heap.size w).alloc (Nat.le_refl _) (.cells #[.int .u64 y, .int .i64 b, .int .i64 n, .pointer p] MT)).alloc (by simp) (.cells #[.int .u64 0, .int .i64 0, .int .i64 0, .pointer none] MT)
  have HO0 := Lib.hid (onek_start hM hB0 (blk_alloc (blk_new w (.cells #[.int .u64 y, .int .i64 b, .int .i64 n, .pointer p] MT)) (.cells #[.int .u64 0, .int .i64 0, .int .i64 0, .pointer none] MT)))
  have HR := Lib.hid (heap_k1 w (.cells #[.int .u64 y, .int .i64 b, .int .i64 n, .pointer p] MT) (.cells #[.int .u64 0, .int .i64 0, .int .i64 0, .pointer none] MT))
  have hsz : ((w.alloc (.cells #[.int .u64 y, .int .i64 b, .int .i64 n, .pointer p] MT)).alloc (.cells #[.int .u64 0, .int .i64 0, .int .i64 0, .pointer none] MT)).heap.size = w.heap.size + 1 + 1 := by simp
  have HSZ := Lib.hid hsz
  have HKY := Lib.hid (fun V (hV : Below w.heap.size w V) => keys_c c K _ L V (hM.below hV) hl (hT.below hV))
  obtain ⟨⟨a0, a1, a2, a3⟩, -⟩ := box4 HO0.out.1
  have HS := Lib.hid hS; have HSM := Lib.hid hSm; have HL := Lib.hid hl; have HB0 := Lib.hid hB0
  have hNI : (N : Int) ≤ 1000 := by omega
  clear hT hq hy hb hM hB0 hsz hN hS hSm
  go_enter Tryd.func91, Tryd.ntmps91
  go_wp2_with (first
    | (go_at_call 26; ((with_reducible refine (HKY.out _ HB0.out).mono ?_); rintro e w6 ⟨v, rfl, hs, hb⟩; obtain ⟨Ak, ck, he⟩ := SlV.form' hs; rw [ksV_length, ← HN.out] at he; subst he; have H6 := Lib.hid (HO0.out.below hb); have HS6 := Lib.hid (hs.mono (K' := fun x => x ≠ w.heap.size) (fun x hx e => by have h9 := HSZ.out; subst e; have : ((w.alloc (.cells #[.int .u64 y, .int .i64 b, .int .i64 n, .pointer p] MT)).alloc (.cells #[.int .u64 0, .int .i64 0, .int .i64 0, .pointer none] MT)).heap.size ≤ w.heap.size := hx; omega)); clear hs hb))
    | fail)
  clear a0 a1 a2 a3 HKY
  generalize (w.alloc (.cells #[.int .u64 y, .int .i64 b, .int .i64 n, .pointer p] MT)).alloc (.cells #[.int .u64 0, .int .i64 0, .int .i64 0, .pointer none] MT) = V0 at *
  go_loopg [10] N (fun k v10 wr => Aside (OnI K c y b w V0 q L (.slice Ak N ck) N k v10 wr ()))
  case atStart =>
    show OnI _ _ _ _ _ _ _ _ _ _ _ _ _ _
    exact ⟨0, _, _, rfl, by omega, by rw [only_zero]; exact H6.out, HS6.out⟩
  case round =>
    obtain ⟨i, n, p, rfl, hik, hO, hsl⟩ := hrel.out
    clear hrel H6 HS6 HO0
    have hll : (onlyL q L i).length ≤ 1000 := Nat.le_trans (only_len q L i) HL.out
    by_cases hlt : i < N
    · have hltI : (i : Int) < (N : Int) := by omega
      obtain ⟨gk, rfl⟩ : ∃ g, gk = g + 1 := ⟨gk - 1, by omega⟩
      obtain ⟨⟨ek, ex⟩, he⟩ : ∃ e, L[i]? = some e := ⟨_, List.getElem?_eq_getElem (by rw [← HN.out]; exact hlt)⟩
      have HSL := Lib.hid hsl
      obtain ⟨ad, rfl, hkc⟩ := hsl.addr (by rw [ksV_length, ← HN.out]; omega)
      have hkc := hkc i (.string ek) (by simp [ksV, he])
      have hes : ek.size ≤ 1000000 := HSM.out _ (List.mem_of_getElem? he)
      have HOV := Lib.hid hO
      have HQE := Lib.hid (HQ.out ek wr hes hO.2.2.2.1)
      cases hqv : q ek with
      | true =>
        rw [hqv] at HQE
        have hst := only_true (q := q) he hqv
        have HST := Lib.hid hst
        clear hO he hsl hst
        go_wp2_with (first
          | (go_at_call 95; ((with_reducible refine (HQE.out).mono ?_); rintro e w8 ⟨v, rfl, rfl, hb⟩; have H8 := Lib.hid (HOV.out.below hb); have HS8 := Lib.hid (HSL.out.below hb); clear hb))
          | fail)
        go_roundg gk
        case measure => omega
        case rel =>
          show OnI _ _ _ _ _ _ _ _ _ _ _ _ _ _
          exact ⟨i + 1, _, _, by first | rfl | (push_cast; rfl), by omega, by rw [HST.out]; exact H8.out, HS8.out⟩
      | false =>
        rw [hqv] at HQE
        have hst := only_false (q := q) HS.out he hqv
        have HST := Lib.hid hst
        have HCT := Lib.hid fun V (hV : Below wr.heap.size wr V) => cuts_mv HY.out HBE.out (HOV.out.2.2.1.below hV) hll ek hes (HT.out.below (below_trans HOV.out.2.2.2.1 hV))
        clear hO he hsl hst
        go_wp2_with (first
          | (go_at_call 95; ((with_reducible refine (HQE.out).mono ?_); rintro e w8 ⟨v, rfl, rfl, hb⟩; have H8 := Lib.hid (HOV.out.below hb); have HS8 := Lib.hid (HSL.out.below hb); have HB8 := Lib.hid hb; obtain ⟨⟨q0, q1, q2, q3⟩, -⟩ := box4 H8.out.1; clear hb))
          | (go_at_call 28; ((with_reducible refine (HCT.out _ HB8.out).mono ?_); rintro e w9 ⟨v, rfl, ⟨m', q', rfl, hm⟩, hb1⟩; have HP := Lib.hid (onek_put H8.out (Nat.le_refl _) (by have := HSZ.out; omega) hb1 hm); have HS9 := Lib.hid (slv_f4 (HS8.out.below hb1) (fun k => k rfl) (.int .u64 y) (.int .i64 b) (.int .i64 m') (.pointer q')); obtain ⟨⟨e0, e1, e2, e3⟩, f0, f1, f2, f3⟩ := box4 (blk_below H8.out.1 hb1); clear hm hb1))
          | fail)
        go_roundg gk
        case measure => omega
        case rel =>
          show OnI _ _ _ _ _ _ _ _ _ _ _ _ _ _
          exact ⟨i + 1, _, _, by first | rfl | (push_cast; rfl), by omega, by rw [HST.out]; exact HP.out, HS9.out⟩
    · rw [only_end q L i (by have := HN.out; omega)] at hO
      have hrb := (hO.2.1 (w.heap.size + 1) (by omega) (by have := HSZ.out; omega)).trans HR.out
      have HE := Lib.hid (put_end hO.2.2.1 hO.2.2.2.1 (r := w.heap.size + 1) (by omega) hrb (fun h => by have := HSZ.out; rcases h with h | h <;> omega))
      have HVS := Lib.hid hO.2.2.2.2
      obtain ⟨⟨q0, q1, q2, q3⟩, -⟩ := box4 hO.1
      obtain ⟨⟨e0, e1, e2, e3⟩, f0, f1, f2, f3⟩ := box4 hrb
      clear hO hsl hll hrb
      go_wp2_with fail
      refine bodyPost_ret (results_c1 rfl _ _ (w.heap.size + 1) MT #[.int .u64 y, .int .i64 b, .int .i64 n, .pointer p] (0, 0) _ rfl HE.out.1 Tryd.underlying30 rfl (by kernel_rfl)) rfl ?_
      exact ⟨_, rfl, ⟨_, _, rfl, HE.out.2.1.mono fun x hx => hx.elim (fun h => Or.inl h.1) fun h => Or.inr (by have := HSZ.out; omega)⟩, HE.out.2.2⟩
end Go.Proofs.YtnegblckbomgdaaDoor.Ht
end
section
namespace Go.Proofs.YtnegblckbomgdaaDoor.Ht
open Go Go.RowKit Go.Shelf Go.Proofs.YtnegblckbomgdaaDoor.Mem Go.Proofs.YtnegblckbomgdaaDoor.PA Go.Proofs.YtnegblckbomgdaaDoorW.PrintWords Go.Proofs.YtnegblckbomgdaaDoor.U64 Go.Proofs.YtnegblckbomgdaaDoor.Bs Go.Proofs.YtnegblckbomgdaaDoor
abbrev STT : TypeId := 9
def btw (lo hi k : ByteArray) : Bool := decide (ordB lo k ≤ 0) && decide (ordB k hi < 0)
set_option maxHeartbeats 2000000 in
theorem meet1_c (d : Cf) (K' : Nat → Prop) (M : List Pr) (y' b' n' : Int) (p' : Option Addr) (g0 : Nat) (V : World) (hM : MapV d K' V (.agg #[.int .u64 y', .int .i64 b', .int .i64 n', .pointer p']) M) (hg : V.heap[g0]? = some (.cells #[.int .u64 y', .int .i64 b', .int .i64 n', .pointer p'] MT (0, 0))) (k : ByteArray) (hk : k.size ≤ 1000000) (hl : M.length ≤ 1000) :
    Calls Tryd.prog 92 #[.string k, .pointer (some ⟨g0, 0, none⟩)] V (Ret (fun u _ => u = .bool ((lkp M k).isSome)) V) := by
  have hG := mget_c d K' _ M k hk V hM (by omega)
  unfold got at hG
  generalize (lkp M k).getD 0 = x at hG
  generalize (lkp M k).isSome = ki at hG ⊢
  have HG := Lib.hid hG
  obtain ⟨⟨a0, a1, a2, a3⟩, -⟩ := box4 hg
  clear hM hg hG
  go_enter Tryd.func92, Tryd.ntmps92
  go_wp2_with (first
    | (go_at_call 27; ((with_reducible refine (HG.out).mono ?_); rintro e w1 ⟨v, rfl, rfl, hb⟩; have H1 := Lib.hid hb; clear hb))
    | fail)
  go_returns
  exact ⟨_, rfl, rfl, H1.out⟩
set_option maxHeartbeats 2000000 in
theorem less1_c (d : Cf) (K' : Nat → Prop) (M : List Pr) (y' b' n' : Int) (p' : Option Addr) (g0 : Nat) (V : World) (hM : MapV d K' V (.agg #[.int .u64 y', .int .i64 b', .int .i64 n', .pointer p']) M) (hg : V.heap[g0]? = some (.cells #[.int .u64 y', .int .i64 b', .int .i64 n', .pointer p'] MT (0, 0))) (k : ByteArray) (hk : k.size ≤ 1000000) (hl : M.length ≤ 1000) :
    Calls Tryd.prog 93 #[.string k, .pointer (some ⟨g0, 0, none⟩)] V (Ret (fun u _ => u = .bool (!(lkp M k).isSome)) V) := by
  have hG := mget_c d K' _ M k hk V hM (by omega)
  unfold got at hG
  generalize (lkp M k).getD 0 = x at hG
  generalize (lkp M k).isSome = ki at hG ⊢
  have HG := Lib.hid hG
  obtain ⟨⟨a0, a1, a2, a3⟩, -⟩ := box4 hg
  clear hM hg hG
  go_enter Tryd.func93, Tryd.ntmps93
  go_wp2_with (first
    | (go_at_call 27; ((with_reducible refine (HG.out).mono ?_); rintro e w1 ⟨v, rfl, rfl, hb⟩; have H1 := Lib.hid hb; clear hb))
    | fail)
  go_returns
  exact ⟨_, rfl, rfl, H1.out⟩
set_option maxHeartbeats 2000000 in
theorem btw1_c (lo hi : ByteArray) (g0 g1 : Nat) (V : World) (hg : V.heap[g0]? = some (.cells #[.string lo] STT (0, 0))) (hh : V.heap[g1]? = some (.cells #[.string hi] STT (0, 0))) (k : ByteArray) :
    Calls Tryd.prog 95 #[.string k, .pointer (some ⟨g0, 0, none⟩), .pointer (some ⟨g1, 0, none⟩)] V (Ret (fun u _ => u = .bool (btw lo hi k)) V) := by
  unfold btw
  have HO1 := Lib.hid (fun V => qorder_c lo k V)
  have HO2 := Lib.hid (fun V => qorder_c k hi V)
  generalize ordB lo k = z at HO1 ⊢
  generalize ordB k hi = z2 at HO2 ⊢
  have a0 : V.cell? ⟨g0, 0, none⟩ = some (.string lo) := blk_cell hg 0
  have HH := Lib.hid hh
  clear hg hh
  by_cases hz : z ≤ 0
  · rw [decide_eq_true hz, Bool.true_and]
    go_enter Tryd.func95, Tryd.ntmps95
    go_wp2_with (first
      | (go_at_call 90; ((with_reducible refine (HO1.out _).mono ?_); rintro e w1 ⟨v, rfl, rfl, hb⟩; have H1 := Lib.hid hb; have b0 : w1.cell? ⟨g1, 0, none⟩ = some (.string hi) := blk_cell (blk_below HH.out hb) 0; clear hb))
      | (go_at_call 90; ((with_reducible refine (HO2.out _).mono ?_); rintro e w2 ⟨v, rfl, rfl, hb⟩; have H2 := Lib.hid (below_trans H1.out hb); clear hb))
      | fail)
    go_returns
    exact ⟨_, rfl, rfl, H2.out⟩
  · rw [decide_eq_false hz, Bool.false_and]
    go_enter Tryd.func95, Tryd.ntmps95
    go_wp2_with (first
      | (go_at_call 90; ((with_reducible refine (HO1.out _).mono ?_); rintro e w1 ⟨v, rfl, rfl, hb⟩; have H1 := Lib.hid hb; clear hb))
      | fail)
    go_returns
    exact ⟨_, rfl, rfl, H1.out⟩
set_option maxRecDepth 100000 in
set_option maxHeartbeats 4000000 in
theorem meet_c (c d : Cf) (K K' : Nat → Prop) (L M : List Pr) (y b n : Int) (p : Option Addr) (y' b' n' : Int) (p' : Option Addr) (w : World) (hy : U c.1 = y) (hb : c.2 = b) (hM : MapV c K w (.agg #[.int .u64 y, .int .i64 b, .int .i64 n, .pointer p]) L) (hM' : MapV d K' w (.agg #[.int .u64 y', .int .i64 b', .int .i64 n', .pointer p']) M) (hl : L.length ≤ 1000) (hl' : M.length ≤ 1000) (hT : Tab w) :
    Calls Tryd.prog 60 #[.agg #[.int .u64 y, .int .i64 b, .int .i64 n, .pointer p], .agg #[.int .u64 y', .int .i64 b', .int .i64 n', .pointer p']] w (Ret (fun u w' => GivesK K c y b (L.filter fun e => (lkp M (e.1)).isSome) w u w') w) := by
  have hB0 := (((Below.refl w.heap.size w).alloc (Nat.le_refl _) (.cells #[.int .u64 y, .int .i64 b, .int .i64 n, .pointer p] MT)).alloc (by simp) (.cells #[.int .u64 y', .int .i64 b', .int .i64 n', .pointer p'] MT)).alloc (by simp; omega) (.cells #[.int .u64 0, .int .i64 0, .int .i64 0, .pointer none] MT)
  have hX1 := blk_alloc (blk_alloc (blk_new w (.cells #[.int .u64 y, .int .i64 b, .int .i64 n, .pointer p] MT)) (.cells #[.int .u64 y', .int .i64 b', .int .i64 n', .pointer p'] MT)) (.cells #[.int .u64 0, .int .i64 0, .int .i64 0, .pointer none] MT)
  have hX2 := blk_alloc (heap_k1 w (.cells #[.int .u64 y, .int .i64 b, .int .i64 n, .pointer p] MT) (.cells #[.int .u64 y', .int .i64 b', .int .i64 n', .pointer p'] MT)) (.cells #[.int .u64 0, .int .i64 0, .int .i64 0, .pointer none] MT)
  have hX3 := heap_k2 w (.cells #[.int .u64 y, .int .i64 b, .int .i64 n, .pointer p] MT) (.cells #[.int .u64 y', .int .i64 b', .int .i64 n', .pointer p'] MT) (.cells #[.int .u64 0, .int .i64 0, .int .i64 0, .pointer none] MT)
  have hsz : (((w.alloc (.cells #[.int .u64 y, .int .i64 b, .int .i64 n, .pointer p] MT)).alloc (.cells #[.int .u64 y', .int .i64 b', .int .i64 n', .pointer p'] MT)).alloc (.cells #[.int .u64 0, .int .i64 0, .int .i64 0, .pointer none] MT)).heap.size = w.heap.size + 1 + 1 + 1 := by simp
  have HON := Lib.hid (only_m c (fun x => K x ∧ x < w.heap.size) L y b n p (w.heap.size + 1) (fun k => (lkp M (k)).isSome) (((w.alloc (.cells #[.int .u64 y, .int .i64 b, .int .i64 n, .pointer p] MT)).alloc (.cells #[.int .u64 y', .int .i64 b', .int .i64 n', .pointer p'] MT)).alloc (.cells #[.int .u64 0, .int .i64 0, .int .i64 0, .pointer none] MT)) hy hb (hM.bound.below hB0) hl (hT.below hB0) (fun k V hk hV => meet1_c d K' M y' b' n' p' (w.heap.size + 1) V (hM'.below (below_trans hB0 hV)) (blk_below hX2 hV) k hk hl'))
  have HB0 := Lib.hid hB0; have HX3 := Lib.hid hX3; have HSZ := Lib.hid hsz
  obtain ⟨⟨a0, a1, a2, a3⟩, -⟩ := box4 hX1
  clear hM hM' hT hB0 hX1 hX2 hX3 hsz hy hb
  generalize (L.filter fun e => (lkp M (e.1)).isSome) = LL at HON ⊢
  go_enter Tryd.func60, Tryd.ntmps60
  go_wp2_with (first
    | (go_at_call 91; ((with_reducible refine (HON.out).mono ?_); rintro e w1 ⟨v, rfl, ⟨m, q, rfl, hm⟩, hb1⟩; have HE := Lib.hid (put_end hm (below_trans HB0.out hb1) (r := w.heap.size + 1 + 1) (by omega) (blk_below HX3.out hb1) (fun h => by have := HSZ.out; rcases h with h | h <;> omega)); have HM1 := Lib.hid hm; obtain ⟨⟨e0, e1, e2, e3⟩, f0, f1, f2, f3⟩ := box4 (blk_below HX3.out hb1); clear hm hb1))
    | fail)
  refine bodyPost_ret (results_c1 rfl _ _ (w.heap.size + 1 + 1) MT #[.int .u64 y, .int .i64 b, .int .i64 m, .pointer q] (0, 0) _ rfl HE.out.1 Tryd.underlying30 rfl (by kernel_rfl)) rfl ?_
  exact ⟨_, rfl, ⟨_, _, rfl, HE.out.2.1.mono fun x hx => hx.elim (fun h => Or.inl h.1) fun h => Or.inr (by have := HSZ.out; omega)⟩, HE.out.2.2⟩
set_option maxRecDepth 100000 in
set_option maxHeartbeats 4000000 in
theorem less_c (c d : Cf) (K K' : Nat → Prop) (L M : List Pr) (y b n : Int) (p : Option Addr) (y' b' n' : Int) (p' : Option Addr) (w : World) (hy : U c.1 = y) (hb : c.2 = b) (hM : MapV c K w (.agg #[.int .u64 y, .int .i64 b, .int .i64 n, .pointer p]) L) (hM' : MapV d K' w (.agg #[.int .u64 y', .int .i64 b', .int .i64 n', .pointer p']) M) (hl : L.length ≤ 1000) (hl' : M.length ≤ 1000) (hT : Tab w) :
    Calls Tryd.prog 61 #[.agg #[.int .u64 y, .int .i64 b, .int .i64 n, .pointer p], .agg #[.int .u64 y', .int .i64 b', .int .i64 n', .pointer p']] w (Ret (fun u w' => GivesK K c y b (L.filter fun e => (!(lkp M (e.1)).isSome)) w u w') w) := by
  have hB0 := (((Below.refl w.heap.size w).alloc (Nat.le_refl _) (.cells #[.int .u64 y, .int .i64 b, .int .i64 n, .pointer p] MT)).alloc (by simp) (.cells #[.int .u64 y', .int .i64 b', .int .i64 n', .pointer p'] MT)).alloc (by simp; omega) (.cells #[.int .u64 0, .int .i64 0, .int .i64 0, .pointer none] MT)
  have hX1 := blk_alloc (blk_alloc (blk_new w (.cells #[.int .u64 y, .int .i64 b, .int .i64 n, .pointer p] MT)) (.cells #[.int .u64 y', .int .i64 b', .int .i64 n', .pointer p'] MT)) (.cells #[.int .u64 0, .int .i64 0, .int .i64 0, .pointer none] MT)
  have hX2 := blk_alloc (heap_k1 w (.cells #[.int .u64 y, .int .i64 b, .int .i64 n, .pointer p] MT) (.cells #[.int .u64 y', .int .i64 b', .int .i64 n', .pointer p'] MT)) (.cells #[.int .u64 0, .int .i64 0, .int .i64 0, .pointer none] MT)
  have hX3 := heap_k2 w (.cells #[.int .u64 y, .int .i64 b, .int .i64 n, .pointer p] MT) (.cells #[.int .u64 y', .int .i64 b', .int .i64 n', .pointer p'] MT) (.cells #[.int .u64 0, .int .i64 0, .int .i64 0, .pointer none] MT)
  have hsz : (((w.alloc (.cells #[.int .u64 y, .int .i64 b, .int .i64 n, .pointer p] MT)).alloc (.cells #[.int .u64 y', .int .i64 b', .int .i64 n', .pointer p'] MT)).alloc (.cells #[.int .u64 0, .int .i64 0, .int .i64 0, .pointer none] MT)).heap.size = w.heap.size + 1 + 1 + 1 := by simp
  have HON := Lib.hid (only_l c (fun x => K x ∧ x < w.heap.size) L y b n p (w.heap.size + 1) (fun k => (!(lkp M (k)).isSome)) (((w.alloc (.cells #[.int .u64 y, .int .i64 b, .int .i64 n, .pointer p] MT)).alloc (.cells #[.int .u64 y', .int .i64 b', .int .i64 n', .pointer p'] MT)).alloc (.cells #[.int .u64 0, .int .i64 0, .int .i64 0, .pointer none] MT)) hy hb (hM.bound.below hB0) hl (hT.below hB0) (fun k V hk hV => less1_c d K' M y' b' n' p' (w.heap.size + 1) V (hM'.below (below_trans hB0 hV)) (blk_below hX2 hV) k hk hl'))
  have HB0 := Lib.hid hB0; have HX3 := Lib.hid hX3; have HSZ := Lib.hid hsz
  obtain ⟨⟨a0, a1, a2, a3⟩, -⟩ := box4 hX1
  clear hM hM' hT hB0 hX1 hX2 hX3 hsz hy hb
  generalize (L.filter fun e => (!(lkp M (e.1)).isSome)) = LL at HON ⊢
  go_enter Tryd.func61, Tryd.ntmps61
  go_wp2_with (first
    | (go_at_call 91; ((with_reducible refine (HON.out).mono ?_); rintro e w1 ⟨v, rfl, ⟨m, q, rfl, hm⟩, hb1⟩; have HE := Lib.hid (put_end hm (below_trans HB0.out hb1) (r := w.heap.size + 1 + 1) (by omega) (blk_below HX3.out hb1) (fun h => by have := HSZ.out; rcases h with h | h <;> omega)); have HM1 := Lib.hid hm; obtain ⟨⟨e0, e1, e2, e3⟩, f0, f1, f2, f3⟩ := box4 (blk_below HX3.out hb1); clear hm hb1))
    | fail)
  refine bodyPost_ret (results_c1 rfl _ _ (w.heap.size + 1 + 1) MT #[.int .u64 y, .int .i64 b, .int .i64 m, .pointer q] (0, 0) _ rfl HE.out.1 Tryd.underlying30 rfl (by kernel_rfl)) rfl ?_
  exact ⟨_, rfl, ⟨_, _, rfl, HE.out.2.1.mono fun x hx => hx.elim (fun h => Or.inl h.1) fun h => Or.inr (by have := HSZ.out; omega)⟩, HE.out.2.2⟩
set_option maxRecDepth 100000 in
set_option maxHeartbeats 4000000 in
theorem between_c (c : Cf) (K : Nat → Prop) (L : List Pr) (y b n : Int) (p : Option Addr) (lo hi : ByteArray) (w : World) (hy : U c.1 = y) (hb : c.2 = b) (hM : MapV c K w (.agg #[.int .u64 y, .int .i64 b, .int .i64 n, .pointer p]) L) (hl : L.length ≤ 1000) (hT : Tab w) :
    Calls Tryd.prog 67 #[.agg #[.int .u64 y, .int .i64 b, .int .i64 n, .pointer p], .string lo, .string hi] w (Ret (fun u w' => GivesK K c y b (L.filter fun e => btw lo hi e.1) w u w') w) := by
  have hB1 := (((Below.refl w.heap.size w).alloc (Nat.le_refl _) (.cells #[.int .u64 y, .int .i64 b, .int .i64 n, .pointer p] MT)).alloc (by simp) (.cells #[.string lo] STT)).alloc (by simp; omega) (.cells #[.string hi] STT)
  have hB0 := hB1.alloc (by simp; omega) (.cells #[.int .u64 0, .int .i64 0, .int .i64 0, .pointer none] MT)
  have hX1 := blk_alloc (blk_alloc (blk_alloc (blk_new w (.cells #[.int .u64 y, .int .i64 b, .int .i64 n, .pointer p] MT)) (.cells #[.string lo] STT)) (.cells #[.string hi] STT)) (.cells #[.int .u64 0, .int .i64 0, .int .i64 0, .pointer none] MT)
  have hX2 := blk_alloc (blk_alloc (heap_k1 w (.cells #[.int .u64 y, .int .i64 b, .int .i64 n, .pointer p] MT) (.cells #[.string lo] STT)) (.cells #[.string hi] STT)) (.cells #[.int .u64 0, .int .i64 0, .int .i64 0, .pointer none] MT)
  have hX2b := blk_alloc (heap_k2 w (.cells #[.int .u64 y, .int .i64 b, .int .i64 n, .pointer p] MT) (.cells #[.string lo] STT) (.cells #[.string hi] STT)) (.cells #[.int .u64 0, .int .i64 0, .int .i64 0, .pointer none] MT)
  have hX3 : ((((w.alloc (.cells #[.int .u64 y, .int .i64 b, .int .i64 n, .pointer p] MT)).alloc (.cells #[.string lo] STT)).alloc (.cells #[.string hi] STT)).alloc (.cells #[.int .u64 0, .int .i64 0, .int .i64 0, .pointer none] MT)).heap[w.heap.size + 1 + 1 + 1]? = some (.cells #[.int .u64 0, .int .i64 0, .int .i64 0, .pointer none] MT (0, 0)) := by
    have := blk_new (((w.alloc (.cells #[.int .u64 y, .int .i64 b, .int .i64 n, .pointer p] MT)).alloc (.cells #[.string lo] STT)).alloc (.cells #[.string hi] STT)) (.cells #[.int .u64 0, .int .i64 0, .int .i64 0, .pointer none] MT)
    simpa using this
  have hsz : ((((w.alloc (.cells #[.int .u64 y, .int .i64 b, .int .i64 n, .pointer p] MT)).alloc (.cells #[.string lo] STT)).alloc (.cells #[.string hi] STT)).alloc (.cells #[.int .u64 0, .int .i64 0, .int .i64 0, .pointer none] MT)).heap.size = w.heap.size + 1 + 1 + 1 + 1 := by simp
  have HON := Lib.hid (only_b c (fun x => K x ∧ x < w.heap.size) L y b n p (w.heap.size + 1) (w.heap.size + 1 + 1) (fun k => btw lo hi k) _ hy hb (hM.bound.below hB0) hl (hT.below hB0) (fun k V hk hV => btw1_c lo hi (w.heap.size + 1) (w.heap.size + 1 + 1) V (blk_below hX2 hV) (blk_below hX2b hV) k))
  have HB0 := Lib.hid hB0; have HX3 := Lib.hid hX3; have HSZ := Lib.hid hsz
  obtain ⟨⟨a0, a1, a2, a3⟩, -⟩ := box4 hX1
  clear hM hT hB0 hB1 hX1 hX2 hX2b hX3 hsz hy hb
  generalize (L.filter fun e => btw lo hi e.1) = LL at HON ⊢
  go_enter Tryd.func67, Tryd.ntmps67
  go_wp2_with (first
    | (go_at_call 91; ((with_reducible refine (HON.out).mono ?_); rintro e w1 ⟨v, rfl, ⟨m, q, rfl, hm⟩, hb1⟩; have HE := Lib.hid (put_end hm (below_trans HB0.out hb1) (r := w.heap.size + 1 + 1 + 1) (by omega) (blk_below HX3.out hb1) (fun h => by have := HSZ.out; rcases h with h | h <;> omega)); obtain ⟨⟨e0, e1, e2, e3⟩, f0, f1, f2, f3⟩ := box4 (blk_below HX3.out hb1); clear hm hb1))
    | fail)
  refine bodyPost_ret (results_c1 rfl _ _ (w.heap.size + 1 + 1 + 1) MT #[.int .u64 y, .int .i64 b, .int .i64 m, .pointer q] (0, 0) _ rfl HE.out.1 Tryd.underlying30 rfl (by kernel_rfl)) rfl ?_
  exact ⟨_, rfl, ⟨_, _, rfl, HE.out.2.1.mono fun x hx => hx.elim (fun h => Or.inl h.1) fun h => Or.inr (by have := HSZ.out; omega)⟩, HE.out.2.2⟩
def uni1 (L : List Pr) (e : Pr) : List Pr := if (lkp L e.1).isSome = true then L else ins L e.1 e.2
def uniL (L M : List Pr) : List Pr := M.foldl uni1 L
theorem uni1_srt {L : List Pr} (h : Srt L) (e : Pr) : Srt (uni1 L e) := by unfold uni1; split; exact h; exact h.ins _ _
theorem uniL_srt (M : List Pr) : ∀ {L : List Pr}, Srt L → Srt (uniL L M) := by
  induction M with
  | nil => intro L h; exact h
  | cons e M ih => intro L h; exact ih (uni1_srt h e)
theorem uni1_len {L : List Pr} (h : Srt L) (e : Pr) : (uni1 L e).length ≤ L.length + 1 := by unfold uni1; split; exact Nat.le_succ _; exact ins_len L _ _ h
theorem uni1_lkp (L : List Pr) (e : Pr) (k : ByteArray) : lkp (uni1 L e) k = (lkp L k).or (if k = e.1 then some e.2 else none) := by
  unfold uni1
  by_cases h : (lkp L e.1).isSome = true
  · rw [if_pos h]
    by_cases hk : k = e.1
    · subst hk
      obtain ⟨x, hx⟩ := Option.isSome_iff_exists.1 h
      rw [hx]; rfl
    · rw [if_neg hk]; simp
  · rw [if_neg h, lkp_ins]
    by_cases hk : k = e.1
    · subst hk
      have : lkp L e.1 = none := by simpa using h
      rw [if_pos rfl, if_pos rfl, this]; rfl
    · rw [if_neg hk, if_neg hk]; simp
theorem uniL_lkp (M : List Pr) (k : ByteArray) : ∀ L : List Pr, lkp (uniL L M) k = (lkp L k).or (lkp M k) := by
  induction M with
  | nil => intro L; show lkp L k = (lkp L k).or none; simp
  | cons e M ih =>
    intro L
    show lkp (uniL (uni1 L e) M) k = _
    rw [ih, uni1_lkp, lkp_cons]
    by_cases hk : k = e.1
    · rw [if_pos hk, if_pos hk.symm]; cases lkp L k <;> simp
    · rw [if_neg hk, if_neg (fun h => hk h.symm)]; simp
def UnI (K : Nat → Prop) (c : Cf) (y b : Int) (w V0 : World) (L M : List Pr) (kv : Value) (N k : Nat) (v14 : Value) (wr : World) (_u : Unit) : Prop :=
  ∃ (i : Nat) (n : Int) (p : Option Addr), v14 = .int .i64 (i : Int) ∧ i + k = N ∧ (uniL L (M.take i)).length ≤ L.length + i ∧ OneK K c y b w.heap.size w V0 n p (uniL L (M.take i)) wr ∧ SlV (fun x => x ≠ w.heap.size) wr kv (ksV M)
set_option maxRecDepth 100000 in
set_option maxHeartbeats 8000000 in
theorem union_c (c d : Cf) (K K' : Nat → Prop) (L M : List Pr) (y b n : Int) (p : Option Addr) (y' b' n' : Int) (p' : Option Addr) (w : World) (hy : U c.1 = y) (hb : c.2 = b) (hM : MapV c K w (.agg #[.int .u64 y, .int .i64 b, .int .i64 n, .pointer p]) L) (hM' : MapV d K' w (.agg #[.int .u64 y', .int .i64 b', .int .i64 n', .pointer p']) M) (hl : L.length + M.length ≤ 1000) (hT : Tab w) :
    Calls Tryd.prog 62 #[.agg #[.int .u64 y, .int .i64 b, .int .i64 n, .pointer p], .agg #[.int .u64 y', .int .i64 b', .int .i64 n', .pointer p']] w (Ret (fun u w' => GivesK K c y b (uniL L M) w u w') w) := by
  obtain ⟨-, -, -, -, -, -, hS, hSm⟩ := mform hM'
  have HT := Lib.hid hT; have HY := Lib.hid hy; have HBE := Lib.hid hb
  obtain ⟨N, hN⟩ : ∃ N, N = M.length := ⟨_, rfl⟩
  have HN := Lib.hid hN
  have hB0 := (((Below.refl w.heap.size w).alloc (Nat.le_refl _) (.cells #[.int .u64 y, .int .i64 b, .int .i64 n, .pointer p] MT)).alloc (by simp) (.cells #[.int .u64 y', .int .i64 b', .int .i64 n', .pointer p'] MT)).alloc (by simp; omega) (.cells #[.int .u64 0, .int .i64 0, .int .i64 0, .pointer none] MT)
  have HO0 := Lib.hid (onek_start hM hB0 (blk_alloc (blk_alloc (blk_new w (.cells #[.int .u64 y, .int .i64 b, .int .i64 n, .pointer p] MT)) (.cells #[.int .u64 y', .int .i64 b', .int .i64 n', .pointer p'] MT)) (.cells #[.int .u64 0, .int .i64 0, .int .i64 0, .pointer none] MT)))
  have HX2 := Lib.hid (blk_alloc (heap_k1 w (.cells #[.int .u64 y, .int .i64 b, .int .i64 n, .pointer p] MT) (.cells #[.int .u64 y', .int .i64 b', .int .i64 n', .pointer p'] MT)) (.cells #[.int .u64 0, .int .i64 0, .int .i64 0, .pointer none] MT))
  have HX3 := Lib.hid (heap_k2 w (.cells #[.int .u64 y, .int .i64 b, .int .i64 n, .pointer p] MT) (.cells #[.int .u64 y', .int .i64 b', .int .i64 n', .pointer p'] MT) (.cells #[.int .u64 0, .int .i64 0, .int .i64 0, .pointer none] MT))
  have hsz : (((w.alloc (.cells #[.int .u64 y, .int .i64 b, .int .i64 n, .pointer p] MT)).alloc (.cells #[.int .u64 y', .int .i64 b', .int .i64 n', .pointer p'] MT)).alloc (.cells #[.int .u64 0, .int .i64 0, .int .i64 0, .pointer none] MT)).heap.size = w.heap.size + 1 + 1 + 1 := by simp
  have HSZ := Lib.hid hsz
  have HKY := Lib.hid (fun V (hV : Below w.heap.size w V) => keys_c d K' _ M V (hM'.below hV) (by omega) (hT.below hV))
  have HGB := Lib.hid fun (j : Nat) (e : Pr) (he : M[j]? = some e) V (hw : Below w.heap.size w V) => (show Calls Tryd.prog 27 #[.agg #[.int .u64 y', .int .i64 b', .int .i64 n', .pointer p'], .string e.1] V (Ret (fun v _ => v = .tuple #[.int .i64 e.2, .bool true]) V) from got_at' hS he ▸ mget_c d K' _ M e.1 (hSm e (List.mem_of_getElem? he)) V (hM'.below hw) (by omega))
  obtain ⟨⟨a0, a1, a2, a3⟩, -⟩ := box4 HX2.out
  have HSM := Lib.hid hSm; have HB0 := Lib.hid hB0; have HLL := Lib.hid hl
  have hNI : (N : Int) ≤ 1000 := by omega
  clear hT hy hb hM hM' hB0 hsz hN hS hSm
  go_enter Tryd.func62, Tryd.ntmps62
  go_wp2_with (first
    | (go_at_call 26; ((with_reducible refine (HKY.out _ HB0.out).mono ?_); rintro e w6 ⟨v, rfl, hs, hb⟩; obtain ⟨Ak, ck, he⟩ := SlV.form' hs; rw [ksV_length, ← HN.out] at he; subst he; have H6 := Lib.hid (HO0.out.below hb); have HS6 := Lib.hid (hs.mono (K' := fun x => x ≠ w.heap.size) (fun x hx e => by have h9 := HSZ.out; subst e; have : (((w.alloc (.cells #[.int .u64 y, .int .i64 b, .int .i64 n, .pointer p] MT)).alloc (.cells #[.int .u64 y', .int .i64 b', .int .i64 n', .pointer p'] MT)).alloc (.cells #[.int .u64 0, .int .i64 0, .int .i64 0, .pointer none] MT)).heap.size ≤ w.heap.size := hx; omega)); clear hs hb))
    | fail)
  clear a0 a1 a2 a3 HKY
  generalize ((w.alloc (.cells #[.int .u64 y, .int .i64 b, .int .i64 n, .pointer p] MT)).alloc (.cells #[.int .u64 y', .int .i64 b', .int .i64 n', .pointer p'] MT)).alloc (.cells #[.int .u64 0, .int .i64 0, .int .i64 0, .pointer none] MT) = V0 at *
  go_loopg [14] N (fun k v14 wr => Aside (UnI K c y b w V0 L M (.slice Ak N ck) N k v14 wr ()))
  case atStart =>
    show UnI _ _ _ _ _ _ _ _ _ _ _ _ _ _
    exact ⟨0, _, _, rfl, by omega, by simp [uniL], H6.out, HS6.out⟩
  case round =>
    obtain ⟨i, n, p, rfl, hik, hln, hO, hsl⟩ := hrel.out
    clear hrel H6 HS6 HO0
    have hll : (uniL L (M.take i)).length ≤ 1000 := by have := HN.out; have := HLL.out; omega
    by_cases hlt : i < N
    · have hltI : (i : Int) < (N : Int) := by omega
      obtain ⟨gk, rfl⟩ : ∃ g, gk = g + 1 := ⟨gk - 1, by omega⟩
      obtain ⟨⟨ek, ex⟩, he⟩ : ∃ e, M[i]? = some e := ⟨_, List.getElem?_eq_getElem (by rw [← HN.out]; exact hlt)⟩
      have HSL := Lib.hid hsl
      obtain ⟨ad, rfl, hkc⟩ := hsl.addr (by rw [ksV_length, ← HN.out]; omega)
      have hkc := hkc i (.string ek) (by simp [ksV, he])
      have hes : ek.size ≤ 1000000 := HSM.out _ (List.mem_of_getElem? he)
      have hta : uniL L (M.take (i + 1)) = uni1 (uniL L (M.take i)) (ek, ex) := by rw [List.take_add_one, he]; simp [uniL, List.foldl_append]
      have hl1 : (uniL L (M.take (i + 1))).length ≤ L.length + (i + 1) := by rw [hta]; exact Nat.le_trans (uni1_len hO.srt.1 _) (by omega)
      have HL1 := Lib.hid hl1
      have HOV := Lib.hid hO
      have hG := mget_c c _ _ _ ek hes wr hO.2.2.1 (by omega)
      unfold got at hG
      obtain ⟨⟨a0, a1, a2, a3⟩, -⟩ := box4 hO.1
      cases hlk : lkp (uniL L (M.take i)) ek with
      | some xx =>
        rw [hlk] at hG
        have hst : uniL L (M.take (i + 1)) = uniL L (M.take i) := by rw [hta]; unfold uni1; rw [if_pos (by rw [hlk]; rfl)]
        have HST := Lib.hid hst; have HG := Lib.hid hG
        simp only [Option.getD_some, Option.isSome_some] at HG
        clear hO he hsl hst hta hl1 hG hlk
        go_wp2_with (first
          | (go_at_call 27; ((with_reducible refine (HG.out).mono ?_); rintro e w8 ⟨v, rfl, rfl, hb⟩; have H8 := Lib.hid (HOV.out.below hb); have HS8 := Lib.hid (HSL.out.below hb); clear hb))
          | fail)
        go_roundg gk
        case measure => omega
        case rel =>
          show UnI _ _ _ _ _ _ _ _ _ _ _ _ _ _
          exact ⟨i + 1, _, _, by first | rfl | (push_cast; rfl), by omega, HL1.out, by rw [HST.out]; exact H8.out, HS8.out⟩
      | none =>
        rw [hlk] at hG
        have hst : uniL L (M.take (i + 1)) = ins (uniL L (M.take i)) ek ex := by rw [hta]; unfold uni1; rw [if_neg (by rw [hlk]; decide)]
        have HST := Lib.hid hst; have HG := Lib.hid hG
        simp only [Option.getD_none, Option.isSome_none] at HG
        have HGE := Lib.hid (HGB.out i _ he)
        dsimp only at HGE
        have HSE := Lib.hid fun V (hV : Below wr.heap.size wr V) => sets_mv HY.out HBE.out (HOV.out.2.2.1.below hV) hll ek ex hes
        have hxb := (hO.2.1 (w.heap.size + 1) (by omega) (by have := HSZ.out; omega)).trans HX2.out
        have HXB := Lib.hid hxb; have HOB := Lib.hid hO.2.2.2.1
        clear hO he hsl hst hta hl1 hG hlk hxb
        go_wp2_with (first
          | (go_at_call 27; ((with_reducible refine (HG.out).mono ?_); rintro e w8 ⟨v, rfl, rfl, hb⟩; have H8 := Lib.hid (HOV.out.below hb); have HS8 := Lib.hid (HSL.out.below hb); have HB8 := Lib.hid hb; obtain ⟨⟨c0, c1, c2, c3⟩, -⟩ := box4 (blk_below HXB.out hb); clear hb))
          | (go_at_call 27; ((with_reducible refine (HGE.out _ (below_trans HOB.out HB8.out)).mono ?_); rintro e w9 ⟨v, rfl, rfl, hb⟩; have H9 := Lib.hid (H8.out.below hb); have HS9 := Lib.hid (HS8.out.below hb); have HB9 := Lib.hid (below_trans HB8.out hb); obtain ⟨⟨q0, q1, q2, q3⟩, -⟩ := box4 H9.out.1; clear hb))
          | (go_at_call 25; ((with_reducible refine (HSE.out _ HB9.out).mono ?_); rintro e w10 ⟨v, rfl, ⟨m', q', rfl, hm⟩, hb1⟩; have HP := Lib.hid (onek_put H9.out (Nat.le_refl _) (by have := HSZ.out; omega) hb1 hm); have HS10 := Lib.hid (slv_f4 (HS9.out.below hb1) (fun k => k rfl) (.int .u64 y) (.int .i64 b) (.int .i64 m') (.pointer q')); obtain ⟨⟨e0, e1, e2, e3⟩, f0, f1, f2, f3⟩ := box4 (blk_below H9.out.1 hb1); clear hm hb1))
          | fail)
        go_roundg gk
        case measure => omega
        case rel =>
          show UnI _ _ _ _ _ _ _ _ _ _ _ _ _ _
          exact ⟨i + 1, _, _, by first | rfl | (push_cast; rfl), by omega, HL1.out, by rw [HST.out]; exact HP.out, HS10.out⟩
    · have htk : M.take i = M := List.take_of_length_le (by have := HN.out; omega)
      rw [htk] at hO
      have hrb := (hO.2.1 (w.heap.size + 1 + 1) (by omega) (by have := HSZ.out; omega)).trans HX3.out
      have HE := Lib.hid (put_end hO.2.2.1 hO.2.2.2.1 (r := w.heap.size + 1 + 1) (by omega) hrb (fun h => by have := HSZ.out; rcases h with h | h <;> omega))
      obtain ⟨⟨q0, q1, q2, q3⟩, -⟩ := box4 hO.1
      obtain ⟨⟨e0, e1, e2, e3⟩, f0, f1, f2, f3⟩ := box4 hrb
      clear hO hsl hll hrb htk hln
      go_wp2_with fail
      refine bodyPost_ret (results_c1 rfl _ _ (w.heap.size + 1 + 1) MT #[.int .u64 y, .int .i64 b, .int .i64 n, .pointer p] (0, 0) _ rfl HE.out.1 Tryd.underlying30 rfl (by kernel_rfl)) rfl ?_
      exact ⟨_, rfl, ⟨_, _, rfl, HE.out.2.1.mono fun x hx => hx.elim (fun h => Or.inl h.1) fun h => Or.inr (by have := HSZ.out; omega)⟩, HE.out.2.2⟩
end Go.Proofs.YtnegblckbomgdaaDoor.Ht
end
section
namespace Go.Proofs.YtnegblckbomgdaaDoor.Ht
open Go Go.RowKit Go.Shelf Go.Proofs.YtnegblckbomgdaaDoor.Mem Go.Proofs.YtnegblckbomgdaaDoor.PA Go.Proofs.YtnegblckbomgdaaDoorW.PrintWords Go.Proofs.YtnegblckbomgdaaDoor.U64 Go.Proofs.YtnegblckbomgdaaDoor.Bs Go.Proofs.YtnegblckbomgdaaDoor
section
variable {g : Nat} {w V0 V w1 wr : World} {s t s' t' : Value} {L L' : List Pr} {K : Nat → Prop}
def OneRK (K : Nat → Prop) (g : Nat) (w V0 : World) (s t : Value) (L : List Pr) (wr : World) : Prop :=
  wr.heap[g]? = some (.cells #[s, t] RT (0, 0)) ∧ (∀ x, x ≠ g → x < V0.heap.size → wr.heap[x]? = V0.heap[x]?) ∧ RefV (KO K w.heap.size V0.heap.size) wr (.agg #[s, t]) L ∧ Below w.heap.size w wr ∧ V0.heap.size ≤ wr.heap.size
theorem OneRK.below (h : OneRK K g w V0 s t L wr) (hb : Below wr.heap.size wr w1) : OneRK K g w V0 s t L w1 :=
  ⟨blk_below h.1 hb, fun x h1 h2 => (hb.block x (Nat.lt_of_lt_of_le h2 h.2.2.2.2)).trans (h.2.1 x h1 h2), h.2.2.1.below hb, below_trans h.2.2.2.1 hb, Nat.le_trans h.2.2.2.2 hb.size⟩
theorem OneRK.form (h : OneRK K g w V0 s t L wr) : ∃ A1 n1 c1 A2 n2 c2, s = .slice A1 n1 c1 ∧ t = .slice A2 n2 c2 := by
  obtain ⟨s', t', e, h1, h2⟩ := h.2.2.1
  simp only [Value.agg.injEq, Array.mk.injEq, List.cons.injEq, and_true] at e
  obtain ⟨rfl, rfl⟩ := e
  obtain ⟨A1, n1, c1, rfl⟩ := h1.form
  obtain ⟨A2, n2, c2, rfl⟩ := h2.form
  exact ⟨A1, n1, c1, A2, n2, c2, rfl, rfl⟩
theorem onerk_start (hM : RefV K w (.agg #[s, t]) L) (hb : Below w.heap.size w V0) (hg : V0.heap[g]? = some (.cells #[s, t] RT (0, 0))) : OneRK K g w V0 s t L V0 :=
  ⟨hg, fun _ _ _ => rfl, (hM.bound.below hb).mono fun x hx => Or.inl hx, hb, Nat.le_refl _⟩
theorem onerk_put (h : OneRK K g w V0 s t L V) (hg : w.heap.size ≤ g) (hgV : g < V0.heap.size) (h1 : Below V.heap.size V w1) (hm : RefV (Fresh V) w1 (.agg #[s', t']) L') :
    OneRK K g w V0 s' t' L' ((w1.setCell ⟨g, 0, none⟩ s').setCell ⟨g, 1, none⟩ t') := by
  have hn : ¬ KO K w.heap.size V0.heap.size g := fun h => by rcases h with h | h <;> omega
  have hm2 : RefV (KO K w.heap.size V0.heap.size) w1 (.agg #[s', t']) L' := hm.mono fun x hx => Or.inr (Nat.le_trans h.2.2.2.2 hx)
  have hB := below_trans h.2.2.2.1 h1
  refine ⟨put2 (blk_below h.1 h1), fun x hx hl => ?_, refv_far (refv_far hm2 _ 0 _ hn) _ 1 _ hn, (hB.setCell (p := ⟨g, 0, none⟩) hg _).setCell (p := ⟨g, 1, none⟩) hg _, ?_⟩
  · rw [Below.heap_setCell _ _ _ _ hx, Below.heap_setCell _ _ _ _ hx]
    exact (h1.block x (Nat.lt_of_lt_of_le hl h.2.2.2.2)).trans (h.2.1 x hx hl)
  · have := Nat.le_trans h.2.2.2.2 h1.size
    simpa using this
theorem rput_end {r : Nat} {e0 e1 : Value} (hM : RefV K V (.agg #[s, t]) L) (hb : Below w.heap.size w V) (hr : w.heap.size ≤ r) (hV : V.heap[r]? = some (.cells #[e0, e1] RT (0, 0))) (hn : ¬ K r) :
    ((V.setCell ⟨r, 0, none⟩ s).setCell ⟨r, 1, none⟩ t).heap[r]? = some (.cells #[s, t] RT (0, 0)) ∧ RefV K ((V.setCell ⟨r, 0, none⟩ s).setCell ⟨r, 1, none⟩ t) (.agg #[s, t]) L ∧ Below w.heap.size w ((V.setCell ⟨r, 0, none⟩ s).setCell ⟨r, 1, none⟩ t) :=
  ⟨put2 hV, refv_far (refv_far hM _ 0 _ hn) _ 1 _ hn, (hb.setCell (p := ⟨r, 0, none⟩) hr _).setCell (p := ⟨r, 1, none⟩) hr _⟩
theorem ins_last {L : List Pr} {k : ByteArray} (x : Int) (h : ∀ e ∈ L, klt e.1 k = true) : ins L k x = L ++ [(k, x)] := by
  unfold ins lo hi
  rw [List.filter_eq_self.2 fun e he => h e he, List.filter_eq_nil_iff.2 fun e he => by rw [klt_asymm (h e he)]; simp]
theorem take_filter {q : ByteArray → Bool} {L : List Pr} (hS : Srt L) {i : Nat} {e : Pr} (he : L[i]? = some e) :
    (L.take (i + 1)).filter (fun e => q e.1) = if q e.1 = true then ins ((L.take i).filter fun e => q e.1) e.1 e.2 else (L.take i).filter fun e => q e.1 := by
  rw [List.take_add_one, he, List.filter_append]
  by_cases h : q e.1 = true
  · rw [if_pos h, ins_last _ fun x hx => ?_]
    · simp [h]
    · obtain ⟨hi, hie⟩ := List.getElem?_eq_some_iff.1 he
      have hsp := List.take_append_drop i L
      rw [List.drop_eq_getElem_cons hi, hie] at hsp
      have hpw := List.pairwise_append.1 (hsp.symm ▸ hS : Srt (L.take i ++ e :: L.drop (i + 1)))
      exact hpw.2.2 x (List.mem_filter.1 hx).1 e (List.mem_cons_self ..)
  · rw [if_neg h]; simp [h]
end
def RGivesK (K : Nat → Prop) (L : List Pr) (w0 : World) (u : Value) (w : World) : Prop := ∃ (A1 : Option Addr) (n1 c1 : Nat) (A2 : Option Addr) (n2 c2 : Nat), u = .agg #[.slice A1 n1 c1, .slice A2 n2 c2] ∧ RefV (New K w0) w (.agg #[.slice A1 n1 c1, .slice A2 n2 c2]) L
def runiL (M A : List Pr) : List Pr := A.foldl (fun M e => ins M e.1 e.2) M
theorem runiL_srt (A : List Pr) : ∀ {M : List Pr}, Srt M → Srt (runiL M A) := by
  induction A with
  | nil => intro M h; exact h
  | cons e A ih => intro M h; exact ih (h.ins _ _)
theorem runiL_lkp (A : List Pr) (hA : Srt A) (k : ByteArray) : ∀ M : List Pr, lkp (runiL M A) k = (lkp A k).or (lkp M k) := by
  induction A with
  | nil => intro M; rfl
  | cons e A ih =>
    intro M
    show lkp (runiL (ins M e.1 e.2) A) k = _
    rw [ih (srt_cons.1 hA).2, lkp_ins, lkp_cons]
    by_cases hk : k = e.1
    · rw [if_pos hk, if_pos hk.symm, hk, lkp_over (srt_cons.1 hA).1]; rfl
    · rw [if_neg hk, if_neg (fun h => hk h.symm)]
theorem uni_same {L M : List Pr} (hL : Srt L) (hM : Srt M) : runiL M L = uniL L M := srt_ext (runiL_srt L hM) (uniL_srt M hL) fun k => by rw [runiL_lkp L hL, uniL_lkp]
def RuI (K : Nat → Prop) (w V0 : World) (L M : List Pr) (N k : Nat) (v10 : Value) (wr : World) (_u : Unit) : Prop :=
  ∃ (i : Nat) (s t : Value), v10 = .int .i64 (i : Int) ∧ i + k = N ∧ (runiL M (L.take i)).length ≤ M.length + i ∧ Srt (runiL M (L.take i)) ∧ Sm (runiL M (L.take i)) ∧ OneRK K (w.heap.size + 1) w V0 s t (runiL M (L.take i)) wr
set_option maxRecDepth 100000 in
set_option maxHeartbeats 8000000 in
theorem runion_w (K K' : Nat → Prop) (L M : List Pr) (N : Nat) (A1 A2 : Option Addr) (c1 c2 : Nat) (B1 B2 : Option Addr) (m1 m2 d1 d2 : Nat) (w : World) (hN : N = L.length) (h1 : SlV K w (.slice A1 N c1) (ksV L)) (h2 : SlV K w (.slice A2 N c2) (xsV L)) (hSm : Sm L)
    (hR' : RefV K' w (.agg #[.slice B1 m1 d1, .slice B2 m2 d2]) M) (hS' : Srt M) (hSm' : Sm M) (hl : L.length + M.length ≤ 1000) :
    Calls Tryd.prog 64 #[.agg #[.slice A1 N c1, .slice A2 N c2], .agg #[.slice B1 m1 d1, .slice B2 m2 d2]] w (Ret (fun u w' => RGivesK K' (runiL M L) w u w') w) := by
  have hB0 := (((Below.refl w.heap.size w).alloc (Nat.le_refl _) (.cells #[.slice A1 N c1, .slice A2 N c2] RT)).alloc (by simp) (.cells #[.slice B1 m1 d1, .slice B2 m2 d2] RT)).alloc (by simp; omega) (.cells #[.slice none 0 0, .slice none 0 0] RT)
  have HO0 := Lib.hid (onerk_start hR' hB0 (blk_alloc (heap_k1 w (.cells #[.slice A1 N c1, .slice A2 N c2] RT) (.cells #[.slice B1 m1 d1, .slice B2 m2 d2] RT)) (.cells #[.slice none 0 0, .slice none 0 0] RT)))
  have HX1 := Lib.hid (blk_alloc (blk_alloc (blk_new w (.cells #[.slice A1 N c1, .slice A2 N c2] RT)) (.cells #[.slice B1 m1 d1, .slice B2 m2 d2] RT)) (.cells #[.slice none 0 0, .slice none 0 0] RT))
  have HX3 := Lib.hid (heap_k2 w (.cells #[.slice A1 N c1, .slice A2 N c2] RT) (.cells #[.slice B1 m1 d1, .slice B2 m2 d2] RT) (.cells #[.slice none 0 0, .slice none 0 0] RT))
  have hsz : (((w.alloc (.cells #[.slice A1 N c1, .slice A2 N c2] RT)).alloc (.cells #[.slice B1 m1 d1, .slice B2 m2 d2] RT)).alloc (.cells #[.slice none 0 0, .slice none 0 0] RT)).heap.size = w.heap.size + 1 + 1 + 1 := by simp
  have HSZ := Lib.hid hsz; have HN := Lib.hid hN; have H1 := Lib.hid h1; have H2 := Lib.hid h2; have HSM := Lib.hid hSm; have HLL := Lib.hid hl; have HS0 := Lib.hid hS'; have HM0 := Lib.hid hSm'
  have hNI : (N : Int) ≤ 1000 := by omega
  obtain ⟨⟨r0, r1⟩, -⟩ := box2 HX1.out
  clear hB0 hsz hN h1 h2 hSm hR' hS' hSm' hl
  go_enter Tryd.func64, Tryd.ntmps64
  go_wp2_with fail
  clear r0 r1
  generalize ((w.alloc (.cells #[.slice A1 N c1, .slice A2 N c2] RT)).alloc (.cells #[.slice B1 m1 d1, .slice B2 m2 d2] RT)).alloc (.cells #[.slice none 0 0, .slice none 0 0] RT) = V0 at *
  go_loopg [10] N (fun k v10 wr => Aside (RuI K' w V0 L M N k v10 wr ()))
  case atStart =>
    show RuI _ _ _ _ _ _ _ _ _ _
    exact ⟨0, _, _, rfl, by omega, by simp [runiL], HS0.out, HM0.out, HO0.out⟩
  case round =>
    obtain ⟨i, s, t, rfl, hik, hln, hsr, hss, hO⟩ := hrel.out
    clear hrel HO0
    obtain ⟨E1, k1, e1, E2, k2, e2, rfl, rfl⟩ := hO.form
    by_cases hlt : i < N
    · have hltI : (i : Int) < (N : Int) := by omega
      obtain ⟨gk, rfl⟩ : ∃ g, gk = g + 1 := ⟨gk - 1, by omega⟩
      obtain ⟨⟨ek, ex⟩, he⟩ : ∃ e, L[i]? = some e := ⟨_, List.getElem?_eq_getElem (by rw [← HN.out]; exact hlt)⟩
      obtain ⟨ad, rfl, hkc⟩ := H1.out.addr (by rw [ksV_length, ← HN.out]; omega)
      obtain ⟨ae, rfl, hxc⟩ := H2.out.addr (by rw [xsV_length, ← HN.out]; omega)
      have hkc := cell_below (hkc i (.string ek) (by simp [ksV, he])) hO.2.2.2.1
      have hx := cell_below (hxc i (.int .i64 ex) (by simp [xsV, he])) hO.2.2.2.1
      have hes : ek.size ≤ 1000000 := HSM.out _ (List.mem_of_getElem? he)
      have hta : runiL M (L.take (i + 1)) = ins (runiL M (L.take i)) ek ex := by rw [List.take_add_one, he]; simp [runiL, List.foldl_append]
      have hll : (runiL M (L.take i)).length ≤ 1000 := by have := HN.out; have := HLL.out; omega
      have HL1 := Lib.hid (show (runiL M (L.take (i + 1))).length ≤ M.length + (i + 1) by rw [hta]; exact Nat.le_trans (ins_len _ _ _ hsr) (by omega))
      have HSR := Lib.hid (show Srt (runiL M (L.take (i + 1))) by rw [hta]; exact hsr.ins _ _)
      have HSS := Lib.hid (show Sm (runiL M (L.take (i + 1))) by rw [hta]; exact hss.ins _ _ hes)
      have HTA := Lib.hid hta; have HOV := Lib.hid hO
      have HSE := Lib.hid (rsets_mv hsr hss hO.2.2.1 hll ek ex ((Below.refl wr.heap.size wr).drew))
      obtain ⟨⟨g0, g1⟩, -⟩ := box2 hO.1
      obtain ⟨⟨r0, r1⟩, -⟩ := box2 ((hO.2.1 w.heap.size (by omega) (by have := HSZ.out; omega)).trans HX1.out)
      clear hO he hta hll hsr hss hxc
      go_upto_region 4 with fail
      refine wp_region_noPanic ?_
      refine RegL.wp_region_late [8] (fun (w' : World) => (w'.cell? ⟨w.heap.size + 1, 0, none⟩ = some (.slice E1 k1 e1) ∧ w'.cell? ⟨w.heap.size + 1, 1, none⟩ = some (.slice E2 k2 e2)) ∧ w'.cell? ⟨w.heap.size, 1, none⟩ = some (.slice (some ae) N c2) ∧ w'.cell? (ae.add i) = some (.int .i64 ex)) (by kernel_rfl) ?_
      have hS0 : (fun (w' : World) => (w'.cell? ⟨w.heap.size + 1, 0, none⟩ = some (.slice E1 k1 e1) ∧ w'.cell? ⟨w.heap.size + 1, 1, none⟩ = some (.slice E2 k2 e2)) ∧ w'.cell? ⟨w.heap.size, 1, none⟩ = some (.slice (some ae) N c2) ∧ w'.cell? (ae.add i) = some (.int .i64 ex)) wr.drew := ⟨⟨g0, g1⟩, r1, hx⟩
      clear g0 g1 hx
      show RegL.wpAnyL _ _ _ _ _ _ 9 _ _ _
      refine RegL.wpAnyL_take (i := 0) (oi := ⟨some 15, Op.load 35 (Operand.tmp 3), _, _, _, _⟩) (v := ?vvru1) rfl (by kernel_rfl) (by kernel_rfl) (by kernel_rfl) (by kernel_rfl) (by kernel_rfl) (by kernel_rfl) (fun _ _ _ h => h) (Or.inl ⟨by rfl, ?hyru1⟩) hS0 ?restru1
      case hyru1 => ((intro w hSw; (try dsimp only at hSw); go_simp) <;> with_reducible rfl)
      try simp only [Act.put, List.setIfInBounds_toArray, List.set_cons_zero, List.set_cons_succ]
      refine RegL.wpAnyL_take (i := 1) (oi := ⟨some 16, Op.move (Operand.tmp 6), _, _, _, _⟩) (v := ?vvru2) rfl (by kernel_rfl) (by kernel_rfl) (by kernel_rfl) (by kernel_rfl) (by kernel_rfl) (by kernel_rfl) (fun _ _ _ h => h) (Or.inl ⟨by rfl, ?hyru2⟩) hS0 ?restru2
      case hyru2 => ((intro w hSw; (try dsimp only at hSw); go_simp) <;> with_reducible rfl)
      try simp only [Act.put, List.setIfInBounds_toArray, List.set_cons_zero, List.set_cons_succ]
      refine RegL.wpAnyL_take (i := 2) (oi := ⟨some 17, Op.fieldAddr 35 (Operand.tmp 2) 1, _, _, _, _⟩) (v := ?vvru3) rfl (by kernel_rfl) (by kernel_rfl) (by kernel_rfl) (by kernel_rfl) (by kernel_rfl) (by kernel_rfl) (fun _ _ _ h => h) (Or.inl ⟨by rfl, ?hyru3⟩) hS0 ?restru3
      case hyru3 => ((intro w hSw; (try dsimp only at hSw); go_simp) <;> with_reducible rfl)
      try simp only [Act.put, List.setIfInBounds_toArray, List.set_cons_zero, List.set_cons_succ]
      refine RegL.wpAnyL_take (i := 3) (oi := ⟨some 18, Op.load 33 (Operand.tmp 17), _, _, _, _⟩) (v := ?vvru4) rfl (by kernel_rfl) (by kernel_rfl) (by kernel_rfl) (by kernel_rfl) (by kernel_rfl) (by kernel_rfl) (fun _ _ _ h => h) (Or.inl ⟨by rfl, ?hyru4⟩) hS0 ?restru4
      case hyru4 => ((intro w hSw; (try dsimp only at hSw); go_simp) <;> with_reducible rfl)
      try simp only [Act.put, List.setIfInBounds_toArray, List.set_cons_zero, List.set_cons_succ]
      refine RegL.wpAnyL_take (i := 4) (oi := ⟨some 19, Op.move (Operand.tmp 5), _, _, _, _⟩) (v := ?vvru5) rfl (by kernel_rfl) (by kernel_rfl) (by kernel_rfl) (by kernel_rfl) (by kernel_rfl) (by kernel_rfl) (fun _ _ _ h => h) (Or.inl ⟨by rfl, ?hyru5⟩) hS0 ?restru5
      case hyru5 => ((intro w hSw; (try dsimp only at hSw); go_simp) <;> with_reducible rfl)
      try simp only [Act.put, List.setIfInBounds_toArray, List.set_cons_zero, List.set_cons_succ]
      refine RegL.wpAnyL_take (i := 5) (oi := ⟨some 20, Op.indexAddr 33 (Operand.tmp 18) (Operand.tmp 19), _, _, _, _⟩) (v := ?vvru6) rfl (by kernel_rfl) (by kernel_rfl) (by kernel_rfl) (by kernel_rfl) (by kernel_rfl) (by kernel_rfl) (fun _ _ _ h => h) (Or.inl ⟨by rfl, ?hyru6⟩) hS0 ?restru6
      case hyru6 => ((intro w hSw; (try dsimp only at hSw); go_simp) <;> with_reducible rfl)
      try simp only [Act.put, List.setIfInBounds_toArray, List.set_cons_zero, List.set_cons_succ]
      refine RegL.wpAnyL_take (i := 6) (oi := ⟨some 21, Op.load 3 (Operand.tmp 20), _, _, _, _⟩) (v := ?vvru7) rfl (by kernel_rfl) (by kernel_rfl) (by kernel_rfl) (by kernel_rfl) (by kernel_rfl) (by kernel_rfl) (fun _ _ _ h => h) (Or.inl ⟨by rfl, ?hyru7⟩) hS0 ?restru7
      case hyru7 => ((intro w hSw; (try dsimp only at hSw); go_simp) <;> with_reducible rfl)
      try simp only [Act.put, List.setIfInBounds_toArray, List.set_cons_zero, List.set_cons_succ]
      refine RegL.wpAnyL_ready (rs := [7]) (by kernel_rfl) (by simp) ?_
      refine RegL.AllReadyL.calm (o := ⟨some 22, Op.call { callee := Callee.value (Operand.func 71), args := #[Operand.tmp 15, Operand.tmp 16, Operand.tmp 21], argTypes := #[35, 9, 3] }, _, _, _, _⟩) rfl (fun K hK => ?_) RegL.AllReadyL.nil
      go_simp
      refine (HSE.out).mono ?_
      rintro e w9 ⟨v, rfl, ⟨F1, l1, f1, F2, l2, f2, rfl, hm⟩, hb1⟩
      have HB1r := Lib.hid hb1; have HB1 := Lib.hid (below_trans (w1 := World.drew wr) (Below.refl _ _).drew hb1); have HP := Lib.hid (onerk_put HOV.out (by omega) (by have := HSZ.out; omega) HB1.out hm)
      obtain ⟨⟨z0, z1⟩, zf0, zf1⟩ := box2 (blk_below HOV.out.1 HB1.out)
      clear hm hb1
      (try dsimp only)
      refine hK.out _ _ (⟨⟨cell_below hS0.1.1 HB1r.out, cell_below hS0.1.2 HB1r.out⟩, cell_below hS0.2.1 HB1r.out, cell_below hS0.2.2 HB1r.out⟩) (fun hS0x => ?_)
      clear hK K
      try simp only [Act.put, List.setIfInBounds_toArray, List.set_cons_zero, List.set_cons_succ]
      refine RegL.wpAnyL_ready (rs := [8]) (by kernel_rfl) (by simp) ?_
      refine RegL.AllReadyL.late (o := ⟨none, Op.store 35 (Operand.tmp 3) (Operand.tmp 22), _, _, _, _⟩) rfl (by kernel_rfl) (fun K hK => ?_) RegL.AllReadyL.nil
      go_simp
      refine hK.out _ _ ?_
      clear hK K
      try simp only [Act.put, List.setIfInBounds_toArray, List.set_cons_zero, List.set_cons_succ]
      refine RegL.wpAnyL_done (by kernel_rfl) ?_ _
      refine NoPanic.normal ?_
      (go_wp2_with fail)
      go_roundg gk
      case measure => omega
      case rel =>
        show RuI _ _ _ _ _ _ _ _ _ _
        exact ⟨i + 1, _, _, by first | rfl | (push_cast; rfl), by omega, HL1.out, HSR.out, HSS.out, by rw [HTA.out]; exact HP.out⟩
    · have htk : L.take i = L := List.take_of_length_le (by have := HN.out; omega)
      rw [htk] at hO
      have hrb := (hO.2.1 (w.heap.size + 1 + 1) (by omega) (by have := HSZ.out; omega)).trans HX3.out
      have HE := Lib.hid (rput_end hO.2.2.1 hO.2.2.2.1 (r := w.heap.size + 1 + 1) (by omega) hrb (fun h => by have := HSZ.out; rcases h with h | h <;> omega))
      obtain ⟨⟨g0, g1⟩, -⟩ := box2 hO.1
      obtain ⟨⟨z0, z1⟩, zf0, zf1⟩ := box2 hrb
      clear hO hrb htk hln hsr hss
      go_wp2_with fail
      refine bodyPost_ret (results_c1 rfl _ _ (w.heap.size + 1 + 1) RT #[.slice E1 k1 e1, .slice E2 k2 e2] (0, 0) _ rfl HE.out.1 Tryd.underlying35 rfl (by kernel_rfl)) rfl ?_
      exact ⟨_, rfl, ⟨_, _, _, _, _, _, rfl, HE.out.2.1.mono fun x hx => hx.elim (fun h => Or.inl h.1) fun h => Or.inr (by have := HSZ.out; omega)⟩, HE.out.2.2⟩
theorem bq_false {a b : Bool} (h : false = (a == b)) : a = !b := by revert h; cases a <;> cases b <;> decide
theorem bq_true {a b : Bool} (h : true = (a == b)) : a = b := by revert h; cases a <;> cases b <;> decide
def PkI (w V0 : World) (q : ByteArray → Bool) (g : Nat) (L : List Pr) (N k : Nat) (vi : Value) (wr : World) (_u : Unit) : Prop :=
  ∃ (i : Nat) (s t : Value), vi = .int .i64 (i : Int) ∧ i + k = N ∧ OneRK (fun _ => False) g w V0 s t ((L.take i).filter fun e => q e.1) wr
set_option maxRecDepth 100000 in
set_option maxHeartbeats 8000000 in
theorem rpick_w (K : Nat → Prop) (L : List Pr) (N : Nat) (A1 A2 : Option Addr) (c1 c2 : Nat) (K' : Nat → Prop) (M : List Pr) (B1 B2 : Option Addr) (m1 m2 d1 d2 : Nat) (wantof : Bool) (q : ByteArray → Bool) (w : World) (hN : N = L.length) (h1 : SlV K w (.slice A1 N c1) (ksV L)) (h2 : SlV K w (.slice A2 N c2) (xsV L)) (hS : Srt L) (hSm : Sm L) (hl : L.length ≤ 1000) (hR' : RefV K' w (.agg #[.slice B1 m1 d1, .slice B2 m2 d2]) M) (hS' : Srt M) (hSm' : Sm M) (hl' : M.length ≤ 1000) (hq : ∀ k, q k = ((lkp M k).isSome == wantof)) :
    Calls Tryd.prog 94 #[.agg #[.slice A1 N c1, .slice A2 N c2], .agg #[.slice B1 m1 d1, .slice B2 m2 d2], .bool wantof] w (Ret (fun u w' => RGivesK (fun _ => False) (L.filter fun e => q e.1) w u w') w) := by
  have hB1 := (((Below.refl w.heap.size w).alloc (Nat.le_refl _) (.cells #[.slice A1 N c1, .slice A2 N c2] RT)).alloc (by simp) (.cells #[.slice B1 m1 d1, .slice B2 m2 d2] RT)).alloc (by simp; omega) (.cells #[.slice none 0 0, .slice none 0 0] RT)
  have hB0 := hB1.alloc (by simp; omega) (.cells #[.slice none 0 0, .slice none 0 0] RT)
  have hX1 := blk_alloc (blk_alloc (blk_alloc (blk_new w (.cells #[.slice A1 N c1, .slice A2 N c2] RT)) (.cells #[.slice B1 m1 d1, .slice B2 m2 d2] RT)) (.cells #[.slice none 0 0, .slice none 0 0] RT)) (.cells #[.slice none 0 0, .slice none 0 0] RT)
  have HX2 := Lib.hid (blk_alloc (blk_alloc (heap_k1 w (.cells #[.slice A1 N c1, .slice A2 N c2] RT) (.cells #[.slice B1 m1 d1, .slice B2 m2 d2] RT)) (.cells #[.slice none 0 0, .slice none 0 0] RT)) (.cells #[.slice none 0 0, .slice none 0 0] RT))
  have hXR := blk_alloc (heap_k2 w (.cells #[.slice A1 N c1, .slice A2 N c2] RT) (.cells #[.slice B1 m1 d1, .slice B2 m2 d2] RT) (.cells #[.slice none 0 0, .slice none 0 0] RT)) (.cells #[.slice none 0 0, .slice none 0 0] RT)
  have hXG : ((((w.alloc (.cells #[.slice A1 N c1, .slice A2 N c2] RT)).alloc (.cells #[.slice B1 m1 d1, .slice B2 m2 d2] RT)).alloc (.cells #[.slice none 0 0, .slice none 0 0] RT)).alloc (.cells #[.slice none 0 0, .slice none 0 0] RT)).heap[w.heap.size + 1 + 1 + 1]? = some (.cells #[.slice none 0 0, .slice none 0 0] RT (0, 0)) := by
    have := blk_new (((w.alloc (.cells #[.slice A1 N c1, .slice A2 N c2] RT)).alloc (.cells #[.slice B1 m1 d1, .slice B2 m2 d2] RT)).alloc (.cells #[.slice none 0 0, .slice none 0 0] RT)) (.cells #[.slice none 0 0, .slice none 0 0] RT)
    simpa using this
  have hsz : ((((w.alloc (.cells #[.slice A1 N c1, .slice A2 N c2] RT)).alloc (.cells #[.slice B1 m1 d1, .slice B2 m2 d2] RT)).alloc (.cells #[.slice none 0 0, .slice none 0 0] RT)).alloc (.cells #[.slice none 0 0, .slice none 0 0] RT)).heap.size = w.heap.size + 1 + 1 + 1 + 1 := by simp
  have HAT := Lib.hid fun (k : ByteArray) V (hV : Below w.heap.size w V) => (show Calls Tryd.prog 81 #[.agg #[.slice B1 m1 d1, .slice B2 m2 d2], .string k] V (Ret (fun u _ => u = .tuple #[.int .i64 (rnk M k : Int), .bool (lkp M k).isSome]) V) from refat_c _ _ M hS' hSm' (by omega) k V (hR'.below hV))
  have HQ := Lib.hid hq
  have hNI : (N : Int) ≤ 1000 := by omega
  have HN := Lib.hid hN; have H1 := Lib.hid h1; have H2 := Lib.hid h2; have HS := Lib.hid hS; have HSM := Lib.hid hSm; have HLL := Lib.hid hl; have HB0 := Lib.hid hB0; have HSZ := Lib.hid hsz; have HX1 := Lib.hid hX1; have HXR := Lib.hid hXR
  have HO0 := Lib.hid (show OneRK (fun _ => False) (w.heap.size + 1 + 1 + 1) w ((((w.alloc (.cells #[.slice A1 N c1, .slice A2 N c2] RT)).alloc (.cells #[.slice B1 m1 d1, .slice B2 m2 d2] RT)).alloc (.cells #[.slice none 0 0, .slice none 0 0] RT)).alloc (.cells #[.slice none 0 0, .slice none 0 0] RT)) (.slice none 0 0) (.slice none 0 0) [] ((((w.alloc (.cells #[.slice A1 N c1, .slice A2 N c2] RT)).alloc (.cells #[.slice B1 m1 d1, .slice B2 m2 d2] RT)).alloc (.cells #[.slice none 0 0, .slice none 0 0] RT)).alloc (.cells #[.slice none 0 0, .slice none 0 0] RT)) from ⟨hXG, fun _ _ _ => rfl, ⟨_, _, rfl, SlV.nil _ _, SlV.nil _ _⟩, hB0, Nat.le_refl _⟩)
  obtain ⟨⟨r0, r1⟩, -⟩ := box2 HX1.out
  clear hN h1 h2 hS hSm hl hB0 hsz hX1 hXR hXG hB1 hR' hS' hSm' hl' hq
  go_enter Tryd.func94, Tryd.ntmps94
  go_wp2_with fail
  clear r0 r1
  generalize (((w.alloc (.cells #[.slice A1 N c1, .slice A2 N c2] RT)).alloc (.cells #[.slice B1 m1 d1, .slice B2 m2 d2] RT)).alloc (.cells #[.slice none 0 0, .slice none 0 0] RT)).alloc (.cells #[.slice none 0 0, .slice none 0 0] RT) = V0 at *
  go_loopg [15] N (fun k vi wr => Aside (PkI w V0 q (w.heap.size + 1 + 1 + 1) L N k vi wr ()))
  case atStart =>
    show PkI _ _ _ _ _ _ _ _ _ _
    exact ⟨0, _, _, rfl, by omega, by simpa using HO0.out⟩
  case round =>
    obtain ⟨i, s, t, rfl, hik, hO⟩ := hrel.out
    clear hrel HO0
    obtain ⟨E1, k1, e1, E2, k2, e2, rfl, rfl⟩ := hO.form
    by_cases hlt : i < N
    · have hltI : (i : Int) < (N : Int) := by omega
      obtain ⟨gk, rfl⟩ : ∃ g, gk = g + 1 := ⟨gk - 1, by omega⟩
      obtain ⟨⟨ek, ex⟩, he⟩ : ∃ e, L[i]? = some e := ⟨_, List.getElem?_eq_getElem (by rw [← HN.out]; exact hlt)⟩
      obtain ⟨ad, rfl, hkc⟩ := H1.out.addr (by rw [ksV_length, ← HN.out]; omega)
      obtain ⟨ae, rfl, hxc⟩ := H2.out.addr (by rw [xsV_length, ← HN.out]; omega)
      have hkc := cell_below (hkc i (.string ek) (by simp [ksV, he])) hO.2.2.2.1
      have hxw := hxc i (.int .i64 ex) (by simp [xsV, he])
      have hes : ek.size ≤ 1000000 := HSM.out _ (List.mem_of_getElem? he)
      have hta := take_filter (q := q) HS.out he
      have hsr : Srt ((L.take i).filter fun e => q e.1) := (HS.out.sublist ((List.filter_sublist).trans (List.take_sublist i L)))
      have hss : Sm ((L.take i).filter fun e => q e.1) := fun e hm => HSM.out e (List.mem_of_mem_take (List.mem_filter.1 hm).1)
      have hll : ((L.take i).filter fun e => q e.1).length ≤ 1000 := Nat.le_trans (List.length_filter_le _ _) (by rw [List.length_take]; have := HLL.out; omega)
      have HOV0 := Lib.hid hO; have HXW := Lib.hid hxw; have HSRT := Lib.hid hsr; have HSMM := Lib.hid hss
      have hbx := (hO.2.1 w.heap.size (by omega) (by have := HSZ.out; omega)).trans HX1.out
      have HBX := Lib.hid hbx
      obtain ⟨⟨r0, r1⟩, -⟩ := box2 hbx
      have hbb := (hO.2.1 (w.heap.size + 1) (by omega) (by have := HSZ.out; omega)).trans HX2.out
      obtain ⟨⟨b0, b1⟩, -⟩ := box2 hbb
      have HA := Lib.hid (HAT.out ek wr hO.2.2.2.1)
      have hqe := HQ.out ek
      clear hbb
      clear hO he hxc hsr hss hxw hbx
      cases hqv : q ek with
      | false =>
        have HTA := Lib.hid (hta.trans (if_neg (by rw [hqv]; decide)))
        clear hta
        rw [hqv] at hqe
        generalize (rnk M ek : Int) = rk at HA
        have HQE : (lkp M ek).isSome = !wantof := bq_false hqe
        rw [HQE] at HA
        clear hqe HQE
        go_wp2_with (first
          | (go_at_call 81; ((with_reducible refine (HA.out).mono ?_); rintro e w8 ⟨v, rfl, rfl, hb⟩; have HOL := Lib.hid (HOV0.out.below hb); clear hb))
          | fail)
        go_roundg gk
        case measure => omega
        case rel =>
          show PkI _ _ _ _ _ _ _ _ _ _
          exact ⟨i + 1, _, _, by first | rfl | (push_cast; rfl), by omega, by rw [HTA.out]; exact HOL.out⟩
      | true =>
        have HTA := Lib.hid (hta.trans (if_pos hqv))
        clear hta
        rw [hqv] at hqe
        generalize (rnk M ek : Int) = rk at HA
        have HQE : (lkp M ek).isSome = wantof := bq_true hqe
        rw [HQE] at HA
        clear hqe HQE
        go_upto_region 7 with (first
          | (go_at_call 81; ((with_reducible refine (HA.out).mono ?_); rintro e w8 ⟨v, rfl, rfl, hb⟩; have HOL := Lib.hid (HOV0.out.below hb); clear hb))
          | fail)
        have hx := cell_below HXW.out HOL.out.2.2.2.1
        have HOV := HOL
        have HSE := Lib.hid (rsets_mv HSRT.out HSMM.out HOV.out.2.2.1 hll ek ex ((Below.refl w8.heap.size w8).drew))
        obtain ⟨⟨g0, g1⟩, -⟩ := box2 HOV.out.1
        obtain ⟨⟨r0, r1⟩, -⟩ := box2 ((HOV.out.2.1 w.heap.size (by omega) (by have := HSZ.out; omega)).trans HX1.out)
        refine wp_region_noPanic ?_
        refine RegL.wp_region_late [8] (fun (w' : World) => (w'.cell? ⟨w.heap.size + 1 + 1 + 1, 0, none⟩ = some (.slice E1 k1 e1) ∧ w'.cell? ⟨w.heap.size + 1 + 1 + 1, 1, none⟩ = some (.slice E2 k2 e2)) ∧ w'.cell? ⟨w.heap.size, 1, none⟩ = some (.slice (some ae) N c2) ∧ w'.cell? (ae.add i) = some (.int .i64 ex)) (by kernel_rfl) ?_
        have hS0 : (fun (w' : World) => (w'.cell? ⟨w.heap.size + 1 + 1 + 1, 0, none⟩ = some (.slice E1 k1 e1) ∧ w'.cell? ⟨w.heap.size + 1 + 1 + 1, 1, none⟩ = some (.slice E2 k2 e2)) ∧ w'.cell? ⟨w.heap.size, 1, none⟩ = some (.slice (some ae) N c2) ∧ w'.cell? (ae.add i) = some (.int .i64 ex)) w8.drew := ⟨⟨g0, g1⟩, r1, hx⟩
        clear g0 g1 hx
        show RegL.wpAnyL _ _ _ _ _ _ 9 _ _ _
        refine RegL.wpAnyL_take (i := 0) (oi := ⟨some 29, Op.load 35 (Operand.tmp 7), _, _, _, _⟩) (v := ?vvrpi1) rfl (by kernel_rfl) (by kernel_rfl) (by kernel_rfl) (by kernel_rfl) (by kernel_rfl) (by kernel_rfl) (fun _ _ _ h => h) (Or.inl ⟨by rfl, ?hyrpi1⟩) hS0 ?restrpi1
        case hyrpi1 => ((intro w hSw; (try dsimp only at hSw); go_simp) <;> with_reducible rfl)
        try simp only [Act.put, List.setIfInBounds_toArray, List.set_cons_zero, List.set_cons_succ]
        refine RegL.wpAnyL_take (i := 1) (oi := ⟨some 30, Op.move (Operand.tmp 9), _, _, _, _⟩) (v := ?vvrpi2) rfl (by kernel_rfl) (by kernel_rfl) (by kernel_rfl) (by kernel_rfl) (by kernel_rfl) (by kernel_rfl) (fun _ _ _ h => h) (Or.inl ⟨by rfl, ?hyrpi2⟩) hS0 ?restrpi2
        case hyrpi2 => ((intro w hSw; (try dsimp only at hSw); go_simp) <;> with_reducible rfl)
        try simp only [Act.put, List.setIfInBounds_toArray, List.set_cons_zero, List.set_cons_succ]
        refine RegL.wpAnyL_take (i := 2) (oi := ⟨some 31, Op.fieldAddr 35 (Operand.tmp 3) 1, _, _, _, _⟩) (v := ?vvrpi3) rfl (by kernel_rfl) (by kernel_rfl) (by kernel_rfl) (by kernel_rfl) (by kernel_rfl) (by kernel_rfl) (fun _ _ _ h => h) (Or.inl ⟨by rfl, ?hyrpi3⟩) hS0 ?restrpi3
        case hyrpi3 => ((intro w hSw; (try dsimp only at hSw); go_simp) <;> with_reducible rfl)
        try simp only [Act.put, List.setIfInBounds_toArray, List.set_cons_zero, List.set_cons_succ]
        refine RegL.wpAnyL_take (i := 3) (oi := ⟨some 32, Op.load 33 (Operand.tmp 31), _, _, _, _⟩) (v := ?vvrpi4) rfl (by kernel_rfl) (by kernel_rfl) (by kernel_rfl) (by kernel_rfl) (by kernel_rfl) (by kernel_rfl) (fun _ _ _ h => h) (Or.inl ⟨by rfl, ?hyrpi4⟩) hS0 ?restrpi4
        case hyrpi4 => ((intro w hSw; (try dsimp only at hSw); go_simp) <;> with_reducible rfl)
        try simp only [Act.put, List.setIfInBounds_toArray, List.set_cons_zero, List.set_cons_succ]
        refine RegL.wpAnyL_take (i := 4) (oi := ⟨some 33, Op.move (Operand.tmp 8), _, _, _, _⟩) (v := ?vvrpi5) rfl (by kernel_rfl) (by kernel_rfl) (by kernel_rfl) (by kernel_rfl) (by kernel_rfl) (by kernel_rfl) (fun _ _ _ h => h) (Or.inl ⟨by rfl, ?hyrpi5⟩) hS0 ?restrpi5
        case hyrpi5 => ((intro w hSw; (try dsimp only at hSw); go_simp) <;> with_reducible rfl)
        try simp only [Act.put, List.setIfInBounds_toArray, List.set_cons_zero, List.set_cons_succ]
        refine RegL.wpAnyL_take (i := 5) (oi := ⟨some 34, Op.indexAddr 33 (Operand.tmp 32) (Operand.tmp 33), _, _, _, _⟩) (v := ?vvrpi6) rfl (by kernel_rfl) (by kernel_rfl) (by kernel_rfl) (by kernel_rfl) (by kernel_rfl) (by kernel_rfl) (fun _ _ _ h => h) (Or.inl ⟨by rfl, ?hyrpi6⟩) hS0 ?restrpi6
        case hyrpi6 => ((intro w hSw; (try dsimp only at hSw); go_simp) <;> with_reducible rfl)
        try simp only [Act.put, List.setIfInBounds_toArray, List.set_cons_zero, List.set_cons_succ]
        refine RegL.wpAnyL_take (i := 6) (oi := ⟨some 35, Op.load 3 (Operand.tmp 34), _, _, _, _⟩) (v := ?vvrpi7) rfl (by kernel_rfl) (by kernel_rfl) (by kernel_rfl) (by kernel_rfl) (by kernel_rfl) (by kernel_rfl) (fun _ _ _ h => h) (Or.inl ⟨by rfl, ?hyrpi7⟩) hS0 ?restrpi7
        case hyrpi7 => ((intro w hSw; (try dsimp only at hSw); go_simp) <;> with_reducible rfl)
        try simp only [Act.put, List.setIfInBounds_toArray, List.set_cons_zero, List.set_cons_succ]
        refine RegL.wpAnyL_ready (rs := [7]) (by kernel_rfl) (by simp) ?_
        refine RegL.AllReadyL.calm (o := ⟨some 36, Op.call { callee := Callee.value (Operand.func 71), args := #[Operand.tmp 29, Operand.tmp 30, Operand.tmp 35], argTypes := #[35, 9, 3] }, _, _, _, _⟩) rfl (fun K hK => ?_) RegL.AllReadyL.nil
        go_simp
        refine (HSE.out).mono ?_
        rintro e w9 ⟨v, rfl, ⟨F1, l1, f1, F2, l2, f2, rfl, hm⟩, hb1⟩
        have HB1r := Lib.hid hb1; have HB1 := Lib.hid (below_trans (w1 := World.drew w8) (Below.refl _ _).drew hb1); have HP := Lib.hid (onerk_put HOV.out (by omega) (by have := HSZ.out; omega) HB1.out hm)
        obtain ⟨⟨z0, z1⟩, zf0, zf1⟩ := box2 (blk_below HOV.out.1 HB1.out)
        clear hm hb1
        (try dsimp only)
        refine hK.out _ _ (⟨⟨cell_below hS0.1.1 HB1r.out, cell_below hS0.1.2 HB1r.out⟩, cell_below hS0.2.1 HB1r.out, cell_below hS0.2.2 HB1r.out⟩) (fun hS0x => ?_)
        clear hK K
        try simp only [Act.put, List.setIfInBounds_toArray, List.set_cons_zero, List.set_cons_succ]
        refine RegL.wpAnyL_ready (rs := [8]) (by kernel_rfl) (by simp) ?_
        refine RegL.AllReadyL.late (o := ⟨none, Op.store 35 (Operand.tmp 7) (Operand.tmp 36), _, _, _, _⟩) rfl (by kernel_rfl) (fun K hK => ?_) RegL.AllReadyL.nil
        go_simp
        refine hK.out _ _ ?_
        clear hK K
        try simp only [Act.put, List.setIfInBounds_toArray, List.set_cons_zero, List.set_cons_succ]
        refine RegL.wpAnyL_done (by kernel_rfl) ?_ _
        refine NoPanic.normal ?_
        (go_wp2_with fail)
        go_roundg gk
        case measure => omega
        case rel =>
          show PkI _ _ _ _ _ _ _ _ _ _
          exact ⟨i + 1, _, _, by first | rfl | (push_cast; rfl), by omega, by rw [HTA.out]; exact HP.out⟩
    · have htk : L.take i = L := List.take_of_length_le (by have := HN.out; omega)
      rw [htk] at hO
      have hrb := (hO.2.1 (w.heap.size + 1 + 1) (by omega) (by have := HSZ.out; omega)).trans HXR.out
      have HE := Lib.hid (rput_end hO.2.2.1 hO.2.2.2.1 (r := w.heap.size + 1 + 1) (by omega) hrb (fun h => by have := HSZ.out; rcases h with h | h; exact h.1; omega))
      obtain ⟨⟨g0, g1⟩, -⟩ := box2 hO.1
      obtain ⟨⟨z0, z1⟩, zf0, zf1⟩ := box2 hrb
      clear hO hrb htk
      go_wp2_with fail
      refine bodyPost_ret (results_c1 rfl _ _ (w.heap.size + 1 + 1) RT #[.slice E1 k1 e1, .slice E2 k2 e2] (0, 0) _ rfl HE.out.1 Tryd.underlying35 rfl (by kernel_rfl)) rfl ?_
      exact ⟨_, rfl, ⟨_, _, _, _, _, _, rfl, HE.out.2.1.mono fun x hx => hx.elim (fun h => h.1.elim) fun h => Or.inr (by have := HSZ.out; omega)⟩, HE.out.2.2⟩
end Go.Proofs.YtnegblckbomgdaaDoor.Ht
end
section
namespace Go.Proofs.YtnegblckbomgdaaDoor.Ht
open Go Go.RowKit Go.Shelf Go.Proofs.YtnegblckbomgdaaDoor.Mem Go.Proofs.YtnegblckbomgdaaDoor.PA Go.Proofs.YtnegblckbomgdaaDoorW.PrintWords Go.Proofs.YtnegblckbomgdaaDoor.U64 Go.Proofs.YtnegblckbomgdaaDoor.Bs Go.Proofs.YtnegblckbomgdaaDoor
theorem rorder_c (a b : ByteArray) (ha : a.size ≤ 100000000) (w : World) : Calls Tryd.prog 89 #[.string a, .string b] w (Ret (fun v _ => v = .int .i64 (ordB a b)) w) := by
  obtain ⟨K, h⟩ := rorder_ev' a b ha
  exact (placketref02_Order.calls K a b _ w (h K (Nat.le_refl _))).mono fun e w' h => ⟨_, h.1, rfl, h.2.below⟩
theorem ord_turn (a b : ByteArray) : (ordB a b ≥ 0) ↔ (ordB b a ≤ 0) := by
  unfold ordB
  cases h1 : klt a b with
  | true => rw [klt_asymm h1]; simp
  | false => cases h2 : klt b a <;> simp
theorem btw_true {lo hi k : ByteArray} (h : btw lo hi k = true) : ordB k lo ≥ 0 ∧ ordB k hi < 0 := by
  unfold btw at h
  rw [Bool.and_eq_true, decide_eq_true_eq, decide_eq_true_eq] at h
  exact ⟨(ord_turn k lo).2 h.1, h.2⟩
theorem btw_false {lo hi k : ByteArray} (h : btw lo hi k = false) : ¬ ordB k lo ≥ 0 ∨ (ordB k lo ≥ 0 ∧ ¬ ordB k hi < 0) := by
  unfold btw at h
  by_cases h1 : ordB k lo ≥ 0
  · right
    rw [decide_eq_true ((ord_turn k lo).1 h1), Bool.true_and] at h
    exact ⟨h1, of_decide_eq_false h⟩
  · exact Or.inl h1
set_option maxRecDepth 100000 in
set_option maxHeartbeats 8000000 in
theorem rbetween_w (K : Nat → Prop) (L : List Pr) (N : Nat) (A1 A2 : Option Addr) (c1 c2 : Nat) (lo hi : ByteArray) (q : ByteArray → Bool) (w : World) (hN : N = L.length) (h1 : SlV K w (.slice A1 N c1) (ksV L)) (h2 : SlV K w (.slice A2 N c2) (xsV L)) (hS : Srt L) (hSm : Sm L) (hl : L.length ≤ 1000) (hq : ∀ k, q k = btw lo hi k) :
    Calls Tryd.prog 68 #[.agg #[.slice A1 N c1, .slice A2 N c2], .string lo, .string hi] w (Ret (fun u w' => RGivesK (fun _ => False) (L.filter fun e => q e.1) w u w') w) := by
  have hB0 := (((Below.refl w.heap.size w).alloc (Nat.le_refl _) (.cells #[.slice A1 N c1, .slice A2 N c2] RT)).alloc (by simp) (.cells #[.slice none 0 0, .slice none 0 0] RT)).alloc (by simp; omega) (.cells #[.slice none 0 0, .slice none 0 0] RT)
  have hX1 := blk_alloc (blk_alloc (blk_new w (.cells #[.slice A1 N c1, .slice A2 N c2] RT)) (.cells #[.slice none 0 0, .slice none 0 0] RT)) (.cells #[.slice none 0 0, .slice none 0 0] RT)
  have hXR := blk_alloc (heap_k1 w (.cells #[.slice A1 N c1, .slice A2 N c2] RT) (.cells #[.slice none 0 0, .slice none 0 0] RT)) (.cells #[.slice none 0 0, .slice none 0 0] RT)
  have hXG := heap_k2 w (.cells #[.slice A1 N c1, .slice A2 N c2] RT) (.cells #[.slice none 0 0, .slice none 0 0] RT) (.cells #[.slice none 0 0, .slice none 0 0] RT)
  have hsz : (((w.alloc (.cells #[.slice A1 N c1, .slice A2 N c2] RT)).alloc (.cells #[.slice none 0 0, .slice none 0 0] RT)).alloc (.cells #[.slice none 0 0, .slice none 0 0] RT)).heap.size = w.heap.size + 1 + 1 + 1 := by simp
  have HRO := Lib.hid fun (a b : ByteArray) (ha : a.size ≤ 100000000) V => rorder_c a b ha V
  have HQ := Lib.hid hq
  have hNI : (N : Int) ≤ 1000 := by omega
  have HN := Lib.hid hN; have H1 := Lib.hid h1; have H2 := Lib.hid h2; have HS := Lib.hid hS; have HSM := Lib.hid hSm; have HLL := Lib.hid hl; have HB0 := Lib.hid hB0; have HSZ := Lib.hid hsz; have HX1 := Lib.hid hX1; have HXR := Lib.hid hXR
  have HO0 := Lib.hid (show OneRK (fun _ => False) (w.heap.size + 1 + 1) w (((w.alloc (.cells #[.slice A1 N c1, .slice A2 N c2] RT)).alloc (.cells #[.slice none 0 0, .slice none 0 0] RT)).alloc (.cells #[.slice none 0 0, .slice none 0 0] RT)) (.slice none 0 0) (.slice none 0 0) [] (((w.alloc (.cells #[.slice A1 N c1, .slice A2 N c2] RT)).alloc (.cells #[.slice none 0 0, .slice none 0 0] RT)).alloc (.cells #[.slice none 0 0, .slice none 0 0] RT)) from ⟨hXG, fun _ _ _ => rfl, ⟨_, _, rfl, SlV.nil _ _, SlV.nil _ _⟩, hB0, Nat.le_refl _⟩)
  obtain ⟨⟨r0, r1⟩, -⟩ := box2 HX1.out
  clear hN h1 h2 hS hSm hl hB0 hsz hX1 hXR hXG hq
  go_enter Tryd.func68, Tryd.ntmps68
  go_wp2_with fail
  clear r0 r1
  generalize ((w.alloc (.cells #[.slice A1 N c1, .slice A2 N c2] RT)).alloc (.cells #[.slice none 0 0, .slice none 0 0] RT)).alloc (.cells #[.slice none 0 0, .slice none 0 0] RT) = V0 at *
  go_loopg [13] N (fun k vi wr => Aside (PkI w V0 q (w.heap.size + 1 + 1) L N k vi wr ()))
  case atStart =>
    show PkI _ _ _ _ _ _ _ _ _ _
    exact ⟨0, _, _, rfl, by omega, by simpa using HO0.out⟩
  case round =>
    obtain ⟨i, s, t, rfl, hik, hO⟩ := hrel.out
    clear hrel HO0
    obtain ⟨E1, k1, e1, E2, k2, e2, rfl, rfl⟩ := hO.form
    by_cases hlt : i < N
    · have hltI : (i : Int) < (N : Int) := by omega
      obtain ⟨gk, rfl⟩ : ∃ g, gk = g + 1 := ⟨gk - 1, by omega⟩
      obtain ⟨⟨ek, ex⟩, he⟩ : ∃ e, L[i]? = some e := ⟨_, List.getElem?_eq_getElem (by rw [← HN.out]; exact hlt)⟩
      obtain ⟨ad, rfl, hkc⟩ := H1.out.addr (by rw [ksV_length, ← HN.out]; omega)
      obtain ⟨ae, rfl, hxc⟩ := H2.out.addr (by rw [xsV_length, ← HN.out]; omega)
      have hkc := cell_below (hkc i (.string ek) (by simp [ksV, he])) hO.2.2.2.1
      have hxw := hxc i (.int .i64 ex) (by simp [xsV, he])
      have hes : ek.size ≤ 1000000 := HSM.out _ (List.mem_of_getElem? he)
      have hta := take_filter (q := q) HS.out he
      have hsr : Srt ((L.take i).filter fun e => q e.1) := (HS.out.sublist ((List.filter_sublist).trans (List.take_sublist i L)))
      have hss : Sm ((L.take i).filter fun e => q e.1) := fun e hm => HSM.out e (List.mem_of_mem_take (List.mem_filter.1 hm).1)
      have hll : ((L.take i).filter fun e => q e.1).length ≤ 1000 := Nat.le_trans (List.length_filter_le _ _) (by rw [List.length_take]; have := HLL.out; omega)
      have HOV0 := Lib.hid hO; have HXW := Lib.hid hxw; have HSRT := Lib.hid hsr; have HSMM := Lib.hid hss
      have hbx := (hO.2.1 w.heap.size (by omega) (by have := HSZ.out; omega)).trans HX1.out
      have HBX := Lib.hid hbx
      obtain ⟨⟨r0, r1⟩, -⟩ := box2 hbx
      have HO1 := Lib.hid (HRO.out ek lo (Nat.le_trans hes (by decide)))
      have HO2 := Lib.hid (HRO.out ek hi (Nat.le_trans hes (by decide)))
      have hqe := HQ.out ek
      clear hO he hxc hsr hss hxw hbx
      cases hqv : q ek with
      | false =>
        have HTA := Lib.hid (hta.trans (if_neg (by rw [hqv]; decide)))
        clear hta
        have hbt := btw_false (hqe.symm.trans hqv)
        generalize ordB ek lo = z1 at HO1 hbt
        generalize ordB ek hi = z2 at HO2 hbt
        clear hqe
        rcases hbt with hb1 | ⟨hb1, hb2⟩
        · go_wp2_with (first
            | (go_at_call 89; ((with_reducible refine (HO1.out _).mono ?_); rintro e w7 ⟨v, rfl, rfl, hb⟩; have HOL := Lib.hid (HOV0.out.below hb); clear hb))
            | fail)
          go_roundg gk
          case measure => omega
          case rel =>
            show PkI _ _ _ _ _ _ _ _ _ _
            exact ⟨i + 1, _, _, by first | rfl | (push_cast; rfl), by omega, by rw [HTA.out]; exact HOL.out⟩
        · go_wp2_with (first
            | (go_at_call 89; ((with_reducible refine (HO1.out _).mono ?_); rintro e w7 ⟨v, rfl, rfl, hb⟩; have HOL7 := Lib.hid (HOV0.out.below hb); clear hb))
            | (go_at_call 89; ((with_reducible refine (HO2.out _).mono ?_); rintro e w8 ⟨v, rfl, rfl, hb⟩; have HOL := Lib.hid (HOL7.out.below hb); clear hb))
            | fail)
          go_roundg gk
          case measure => omega
          case rel =>
            show PkI _ _ _ _ _ _ _ _ _ _
            exact ⟨i + 1, _, _, by first | rfl | (push_cast; rfl), by omega, by rw [HTA.out]; exact HOL.out⟩
      | true =>
        have HTA := Lib.hid (hta.trans (if_pos hqv))
        clear hta
        have hbt := btw_true (hqe.symm.trans hqv)
        generalize ordB ek lo = z1 at HO1 hbt
        generalize ordB ek hi = z2 at HO2 hbt
        obtain ⟨hb1, hb2⟩ := hbt
        clear hqe
        go_upto_region 6 with (first
          | (go_at_call 89; ((with_reducible refine (HO1.out _).mono ?_); rintro e w7 ⟨v, rfl, rfl, hb⟩; have HOL7 := Lib.hid (HOV0.out.below hb); clear hb))
          | (go_at_call 89; ((with_reducible refine (HO2.out _).mono ?_); rintro e w8 ⟨v, rfl, rfl, hb⟩; have HOL := Lib.hid (HOL7.out.below hb); clear hb))
          | fail)
        have hx := cell_below HXW.out HOL.out.2.2.2.1
        have HOV := HOL
        have HSE := Lib.hid (rsets_mv HSRT.out HSMM.out HOV.out.2.2.1 hll ek ex ((Below.refl w8.heap.size w8).drew))
        obtain ⟨⟨g0, g1⟩, -⟩ := box2 HOV.out.1
        obtain ⟨⟨r0, r1⟩, -⟩ := box2 ((HOV.out.2.1 w.heap.size (by omega) (by have := HSZ.out; omega)).trans HX1.out)
        refine wp_region_noPanic ?_
        refine RegL.wp_region_late [8] (fun (w' : World) => (w'.cell? ⟨w.heap.size + 1 + 1, 0, none⟩ = some (.slice E1 k1 e1) ∧ w'.cell? ⟨w.heap.size + 1 + 1, 1, none⟩ = some (.slice E2 k2 e2)) ∧ w'.cell? ⟨w.heap.size, 1, none⟩ = some (.slice (some ae) N c2) ∧ w'.cell? (ae.add i) = some (.int .i64 ex)) (by kernel_rfl) ?_
        have hS0 : (fun (w' : World) => (w'.cell? ⟨w.heap.size + 1 + 1, 0, none⟩ = some (.slice E1 k1 e1) ∧ w'.cell? ⟨w.heap.size + 1 + 1, 1, none⟩ = some (.slice E2 k2 e2)) ∧ w'.cell? ⟨w.heap.size, 1, none⟩ = some (.slice (some ae) N c2) ∧ w'.cell? (ae.add i) = some (.int .i64 ex)) w8.drew := ⟨⟨g0, g1⟩, r1, hx⟩
        clear g0 g1 hx
        show RegL.wpAnyL _ _ _ _ _ _ 9 _ _ _
        refine RegL.wpAnyL_take (i := 0) (oi := ⟨some 28, Op.load 35 (Operand.tmp 7), _, _, _, _⟩) (v := ?vvrbe1) rfl (by kernel_rfl) (by kernel_rfl) (by kernel_rfl) (by kernel_rfl) (by kernel_rfl) (by kernel_rfl) (fun _ _ _ h => h) (Or.inl ⟨by rfl, ?hyrbe1⟩) hS0 ?restrbe1
        case hyrbe1 => ((intro w hSw; (try dsimp only at hSw); go_simp) <;> with_reducible rfl)
        try simp only [Act.put, List.setIfInBounds_toArray, List.set_cons_zero, List.set_cons_succ]
        refine RegL.wpAnyL_take (i := 1) (oi := ⟨some 29, Op.move (Operand.tmp 9), _, _, _, _⟩) (v := ?vvrbe2) rfl (by kernel_rfl) (by kernel_rfl) (by kernel_rfl) (by kernel_rfl) (by kernel_rfl) (by kernel_rfl) (fun _ _ _ h => h) (Or.inl ⟨by rfl, ?hyrbe2⟩) hS0 ?restrbe2
        case hyrbe2 => ((intro w hSw; (try dsimp only at hSw); go_simp) <;> with_reducible rfl)
        try simp only [Act.put, List.setIfInBounds_toArray, List.set_cons_zero, List.set_cons_succ]
        refine RegL.wpAnyL_take (i := 2) (oi := ⟨some 30, Op.fieldAddr 35 (Operand.tmp 3) 1, _, _, _, _⟩) (v := ?vvrbe3) rfl (by kernel_rfl) (by kernel_rfl) (by kernel_rfl) (by kernel_rfl) (by kernel_rfl) (by kernel_rfl) (fun _ _ _ h => h) (Or.inl ⟨by rfl, ?hyrbe3⟩) hS0 ?restrbe3
        case hyrbe3 => ((intro w hSw; (try dsimp only at hSw); go_simp) <;> with_reducible rfl)
        try simp only [Act.put, List.setIfInBounds_toArray, List.set_cons_zero, List.set_cons_succ]
        refine RegL.wpAnyL_take (i := 3) (oi := ⟨some 31, Op.load 33 (Operand.tmp 30), _, _, _, _⟩) (v := ?vvrbe4) rfl (by kernel_rfl) (by kernel_rfl) (by kernel_rfl) (by kernel_rfl) (by kernel_rfl) (by kernel_rfl) (fun _ _ _ h => h) (Or.inl ⟨by rfl, ?hyrbe4⟩) hS0 ?restrbe4
        case hyrbe4 => ((intro w hSw; (try dsimp only at hSw); go_simp) <;> with_reducible rfl)
        try simp only [Act.put, List.setIfInBounds_toArray, List.set_cons_zero, List.set_cons_succ]
        refine RegL.wpAnyL_take (i := 4) (oi := ⟨some 32, Op.move (Operand.tmp 8), _, _, _, _⟩) (v := ?vvrbe5) rfl (by kernel_rfl) (by kernel_rfl) (by kernel_rfl) (by kernel_rfl) (by kernel_rfl) (by kernel_rfl) (fun _ _ _ h => h) (Or.inl ⟨by rfl, ?hyrbe5⟩) hS0 ?restrbe5
        case hyrbe5 => ((intro w hSw; (try dsimp only at hSw); go_simp) <;> with_reducible rfl)
        try simp only [Act.put, List.setIfInBounds_toArray, List.set_cons_zero, List.set_cons_succ]
        refine RegL.wpAnyL_take (i := 5) (oi := ⟨some 33, Op.indexAddr 33 (Operand.tmp 31) (Operand.tmp 32), _, _, _, _⟩) (v := ?vvrbe6) rfl (by kernel_rfl) (by kernel_rfl) (by kernel_rfl) (by kernel_rfl) (by kernel_rfl) (by kernel_rfl) (fun _ _ _ h => h) (Or.inl ⟨by rfl, ?hyrbe6⟩) hS0 ?restrbe6
        case hyrbe6 => ((intro w hSw; (try dsimp only at hSw); go_simp) <;> with_reducible rfl)
        try simp only [Act.put, List.setIfInBounds_toArray, List.set_cons_zero, List.set_cons_succ]
        refine RegL.wpAnyL_take (i := 6) (oi := ⟨some 34, Op.load 3 (Operand.tmp 33), _, _, _, _⟩) (v := ?vvrbe7) rfl (by kernel_rfl) (by kernel_rfl) (by kernel_rfl) (by kernel_rfl) (by kernel_rfl) (by kernel_rfl) (fun _ _ _ h => h) (Or.inl ⟨by rfl, ?hyrbe7⟩) hS0 ?restrbe7
        case hyrbe7 => ((intro w hSw; (try dsimp only at hSw); go_simp) <;> with_reducible rfl)
        try simp only [Act.put, List.setIfInBounds_toArray, List.set_cons_zero, List.set_cons_succ]
        refine RegL.wpAnyL_ready (rs := [7]) (by kernel_rfl) (by simp) ?_
        refine RegL.AllReadyL.calm (o := ⟨some 35, Op.call { callee := Callee.value (Operand.func 71), args := #[Operand.tmp 28, Operand.tmp 29, Operand.tmp 34], argTypes := #[35, 9, 3] }, _, _, _, _⟩) rfl (fun K hK => ?_) RegL.AllReadyL.nil
        go_simp
        refine (HSE.out).mono ?_
        rintro e w9 ⟨v, rfl, ⟨F1, l1, f1, F2, l2, f2, rfl, hm⟩, hb1⟩
        have HB1r := Lib.hid hb1; have HB1 := Lib.hid (below_trans (w1 := World.drew w8) (Below.refl _ _).drew hb1); have HP := Lib.hid (onerk_put HOV.out (by omega) (by have := HSZ.out; omega) HB1.out hm)
        obtain ⟨⟨z0, z1⟩, zf0, zf1⟩ := box2 (blk_below HOV.out.1 HB1.out)
        clear hm hb1
        (try dsimp only)
        refine hK.out _ _ (⟨⟨cell_below hS0.1.1 HB1r.out, cell_below hS0.1.2 HB1r.out⟩, cell_below hS0.2.1 HB1r.out, cell_below hS0.2.2 HB1r.out⟩) (fun hS0x => ?_)
        clear hK K
        try simp only [Act.put, List.setIfInBounds_toArray, List.set_cons_zero, List.set_cons_succ]
        refine RegL.wpAnyL_ready (rs := [8]) (by kernel_rfl) (by simp) ?_
        refine RegL.AllReadyL.late (o := ⟨none, Op.store 35 (Operand.tmp 7) (Operand.tmp 35), _, _, _, _⟩) rfl (by kernel_rfl) (fun K hK => ?_) RegL.AllReadyL.nil
        go_simp
        refine hK.out _ _ ?_
        clear hK K
        try simp only [Act.put, List.setIfInBounds_toArray, List.set_cons_zero, List.set_cons_succ]
        refine RegL.wpAnyL_done (by kernel_rfl) ?_ _
        refine NoPanic.normal ?_
        (go_wp2_with fail)
        go_roundg gk
        case measure => omega
        case rel =>
          show PkI _ _ _ _ _ _ _ _ _ _
          exact ⟨i + 1, _, _, by first | rfl | (push_cast; rfl), by omega, by rw [HTA.out]; exact HP.out⟩
    · have htk : L.take i = L := List.take_of_length_le (by have := HN.out; omega)
      rw [htk] at hO
      have hrb := (hO.2.1 (w.heap.size + 1) (by omega) (by have := HSZ.out; omega)).trans HXR.out
      have HE := Lib.hid (rput_end hO.2.2.1 hO.2.2.2.1 (r := w.heap.size + 1) (by omega) hrb (fun h => by have := HSZ.out; rcases h with h | h; exact h.1; omega))
      obtain ⟨⟨g0, g1⟩, -⟩ := box2 hO.1
      obtain ⟨⟨z0, z1⟩, zf0, zf1⟩ := box2 hrb
      clear hO hrb htk
      go_wp2_with fail
      refine bodyPost_ret (results_c1 rfl _ _ (w.heap.size + 1) RT #[.slice E1 k1 e1, .slice E2 k2 e2] (0, 0) _ rfl HE.out.1 Tryd.underlying35 rfl (by kernel_rfl)) rfl ?_
      exact ⟨_, rfl, ⟨_, _, _, _, _, _, rfl, HE.out.2.1.mono fun x hx => hx.elim (fun h => h.1.elim) fun h => Or.inr (by have := HSZ.out; omega)⟩, HE.out.2.2⟩
set_option maxRecDepth 100000 in
set_option maxHeartbeats 4000000 in
theorem rmeet_w (K K' : Nat → Prop) (L M : List Pr) (N : Nat) (A1 A2 : Option Addr) (c1 c2 : Nat) (B1 B2 : Option Addr) (m1 m2 d1 d2 : Nat) (q : ByteArray → Bool) (w : World) (hN : N = L.length) (h1 : SlV K w (.slice A1 N c1) (ksV L)) (h2 : SlV K w (.slice A2 N c2) (xsV L)) (hS : Srt L) (hSm : Sm L) (hl : L.length ≤ 1000)
    (hR' : RefV K' w (.agg #[.slice B1 m1 d1, .slice B2 m2 d2]) M) (hS' : Srt M) (hSm' : Sm M) (hl' : M.length ≤ 1000) (hq : ∀ k, q k = ((lkp M k).isSome == true)) :
    Calls Tryd.prog 65 #[.agg #[.slice A1 N c1, .slice A2 N c2], .agg #[.slice B1 m1 d1, .slice B2 m2 d2]] w (Ret (fun u w' => RGivesK (fun _ => False) (L.filter fun e => q e.1) w u w') w) := by
  have hB0 := (((Below.refl w.heap.size w).alloc (Nat.le_refl _) (.cells #[.slice A1 N c1, .slice A2 N c2] RT)).alloc (by simp) (.cells #[.slice B1 m1 d1, .slice B2 m2 d2] RT)).alloc (by simp; omega) (.cells #[.slice none 0 0, .slice none 0 0] RT)
  have hX1 := blk_alloc (blk_alloc (blk_new w (.cells #[.slice A1 N c1, .slice A2 N c2] RT)) (.cells #[.slice B1 m1 d1, .slice B2 m2 d2] RT)) (.cells #[.slice none 0 0, .slice none 0 0] RT)
  have hX2 := blk_alloc (heap_k1 w (.cells #[.slice A1 N c1, .slice A2 N c2] RT) (.cells #[.slice B1 m1 d1, .slice B2 m2 d2] RT)) (.cells #[.slice none 0 0, .slice none 0 0] RT)
  have hX3 := heap_k2 w (.cells #[.slice A1 N c1, .slice A2 N c2] RT) (.cells #[.slice B1 m1 d1, .slice B2 m2 d2] RT) (.cells #[.slice none 0 0, .slice none 0 0] RT)
  have hsz : (((w.alloc (.cells #[.slice A1 N c1, .slice A2 N c2] RT)).alloc (.cells #[.slice B1 m1 d1, .slice B2 m2 d2] RT)).alloc (.cells #[.slice none 0 0, .slice none 0 0] RT)).heap.size = w.heap.size + 1 + 1 + 1 := by simp
  have HON := Lib.hid (rpick_w K L N A1 A2 c1 c2 K' M B1 B2 m1 m2 d1 d2 true q (((w.alloc (.cells #[.slice A1 N c1, .slice A2 N c2] RT)).alloc (.cells #[.slice B1 m1 d1, .slice B2 m2 d2] RT)).alloc (.cells #[.slice none 0 0, .slice none 0 0] RT)) hN (h1.below hB0) (h2.below hB0) hS hSm hl (hR'.below hB0) hS' hSm' hl' hq)
  have HB0 := Lib.hid hB0; have HX3 := Lib.hid hX3; have HSZ := Lib.hid hsz
  obtain ⟨⟨a0, a1⟩, -⟩ := box2 hX1
  obtain ⟨⟨b0, b1⟩, -⟩ := box2 hX2
  clear hN h1 h2 hS hSm hl hR' hS' hSm' hl' hB0 hX1 hX2 hX3 hsz hq
  generalize (L.filter fun e => q e.1) = LL at HON ⊢
  go_enter Tryd.func65, Tryd.ntmps65
  go_wp2_with (first
    | (go_at_call 94; ((with_reducible refine (HON.out).mono ?_); rintro e w1 ⟨v, rfl, ⟨E1, k1, e1, E2, k2, e2, rfl, hm⟩, hb1⟩; have HE := Lib.hid (rput_end hm (below_trans HB0.out hb1) (r := w.heap.size + 1 + 1) (by omega) (blk_below HX3.out hb1) (fun h => by have := HSZ.out; rcases h with h | h; exact h; omega)); obtain ⟨⟨z0, z1⟩, zf0, zf1⟩ := box2 (blk_below HX3.out hb1); clear hm hb1))
    | fail)
  refine bodyPost_ret (results_c1 rfl _ _ (w.heap.size + 1 + 1) RT #[.slice E1 k1 e1, .slice E2 k2 e2] (0, 0) _ rfl HE.out.1 Tryd.underlying35 rfl (by kernel_rfl)) rfl ?_
  exact ⟨_, rfl, ⟨_, _, _, _, _, _, rfl, HE.out.2.1.mono fun x hx => hx.elim (fun h => h.elim) fun h => Or.inr (by have := HSZ.out; omega)⟩, HE.out.2.2⟩
set_option maxRecDepth 100000 in
set_option maxHeartbeats 4000000 in
theorem rless_w (K K' : Nat → Prop) (L M : List Pr) (N : Nat) (A1 A2 : Option Addr) (c1 c2 : Nat) (B1 B2 : Option Addr) (m1 m2 d1 d2 : Nat) (q : ByteArray → Bool) (w : World) (hN : N = L.length) (h1 : SlV K w (.slice A1 N c1) (ksV L)) (h2 : SlV K w (.slice A2 N c2) (xsV L)) (hS : Srt L) (hSm : Sm L) (hl : L.length ≤ 1000)
    (hR' : RefV K' w (.agg #[.slice B1 m1 d1, .slice B2 m2 d2]) M) (hS' : Srt M) (hSm' : Sm M) (hl' : M.length ≤ 1000) (hq : ∀ k, q k = ((lkp M k).isSome == false)) :
    Calls Tryd.prog 66 #[.agg #[.slice A1 N c1, .slice A2 N c2], .agg #[.slice B1 m1 d1, .slice B2 m2 d2]] w (Ret (fun u w' => RGivesK (fun _ => False) (L.filter fun e => q e.1) w u w') w) := by
  have hB0 := (((Below.refl w.heap.size w).alloc (Nat.le_refl _) (.cells #[.slice A1 N c1, .slice A2 N c2] RT)).alloc (by simp) (.cells #[.slice B1 m1 d1, .slice B2 m2 d2] RT)).alloc (by simp; omega) (.cells #[.slice none 0 0, .slice none 0 0] RT)
  have hX1 := blk_alloc (blk_alloc (blk_new w (.cells #[.slice A1 N c1, .slice A2 N c2] RT)) (.cells #[.slice B1 m1 d1, .slice B2 m2 d2] RT)) (.cells #[.slice none 0 0, .slice none 0 0] RT)
  have hX2 := blk_alloc (heap_k1 w (.cells #[.slice A1 N c1, .slice A2 N c2] RT) (.cells #[.slice B1 m1 d1, .slice B2 m2 d2] RT)) (.cells #[.slice none 0 0, .slice none 0 0] RT)
  have hX3 := heap_k2 w (.cells #[.slice A1 N c1, .slice A2 N c2] RT) (.cells #[.slice B1 m1 d1, .slice B2 m2 d2] RT) (.cells #[.slice none 0 0, .slice none 0 0] RT)
  have hsz : (((w.alloc (.cells #[.slice A1 N c1, .slice A2 N c2] RT)).alloc (.cells #[.slice B1 m1 d1, .slice B2 m2 d2] RT)).alloc (.cells #[.slice none 0 0, .slice none 0 0] RT)).heap.size = w.heap.size + 1 + 1 + 1 := by simp
  have HON := Lib.hid (rpick_w K L N A1 A2 c1 c2 K' M B1 B2 m1 m2 d1 d2 false q (((w.alloc (.cells #[.slice A1 N c1, .slice A2 N c2] RT)).alloc (.cells #[.slice B1 m1 d1, .slice B2 m2 d2] RT)).alloc (.cells #[.slice none 0 0, .slice none 0 0] RT)) hN (h1.below hB0) (h2.below hB0) hS hSm hl (hR'.below hB0) hS' hSm' hl' hq)
  have HB0 := Lib.hid hB0; have HX3 := Lib.hid hX3; have HSZ := Lib.hid hsz
  obtain ⟨⟨a0, a1⟩, -⟩ := box2 hX1
  obtain ⟨⟨b0, b1⟩, -⟩ := box2 hX2
  clear hN h1 h2 hS hSm hl hR' hS' hSm' hl' hB0 hX1 hX2 hX3 hsz hq
  generalize (L.filter fun e => q e.1) = LL at HON ⊢
  go_enter Tryd.func66, Tryd.ntmps66
  go_wp2_with (first
    | (go_at_call 94; ((with_reducible refine (HON.out).mono ?_); rintro e w1 ⟨v, rfl, ⟨E1, k1, e1, E2, k2, e2, rfl, hm⟩, hb1⟩; have HE := Lib.hid (rput_end hm (below_trans HB0.out hb1) (r := w.heap.size + 1 + 1) (by omega) (blk_below HX3.out hb1) (fun h => by have := HSZ.out; rcases h with h | h; exact h; omega)); obtain ⟨⟨z0, z1⟩, zf0, zf1⟩ := box2 (blk_below HX3.out hb1); clear hm hb1))
    | fail)
  refine bodyPost_ret (results_c1 rfl _ _ (w.heap.size + 1 + 1) RT #[.slice E1 k1 e1, .slice E2 k2 e2] (0, 0) _ rfl HE.out.1 Tryd.underlying35 rfl (by kernel_rfl)) rfl ?_
  exact ⟨_, rfl, ⟨_, _, _, _, _, _, rfl, HE.out.2.1.mono fun x hx => hx.elim (fun h => h.elim) fun h => Or.inr (by have := HSZ.out; omega)⟩, HE.out.2.2⟩
end Go.Proofs.YtnegblckbomgdaaDoor.Ht
end
section
namespace Go.Proofs.YtnegblckbomgdaaDoor.Ht
set_option maxRecDepth 100000
open Go Go.RowKit Go.ChangeShapes Go.WideShapes Go.Deep Go.Joins Go.Proofs.YtnegblckbomgdaaDoor.Mem Go.Proofs.YtnegblckbomgdaaDoor.PA Go.Proofs.YtnegblckbomgdaaDoorW.PrintWords Go.Proofs.YtnegblckbomgdaaDoor.U64
theorem pair_mk (w : World) (x : S2) : k133.K w x [.string x.f0, .int .i64 x.f1] := ⟨[.string x.f0], [.int .i64 x.f1], rfl, rfl, rfl⟩
theorem pairs_open {H : Type} {enc : TypeId × Value → H} {w : World} {base : Nat} {spare : Nat → Bool} {held : Bool} {v : Value} {d : DataW H} {p : List MemPlace} {r : Reach} {b0 : Nat}
    (hv : Value.okWide Tryd.prog w r b0 64 v) (h : DataW.Trod enc Tryd.prog w base spare held 64 v d p) : ∃ os, PairsV w v os := by
  have hC : Tryd.prog.cellsOf 133 = 2 := by kernel_rfl
  obtain ⟨A, len, cap, rfl⟩ := okWide_slice Tryd.underlying64 hv
  obtain ⟨fuel, hf'⟩ := h
  rcases open_slice Tryd.underlying64 hf' with ⟨hcs, _⟩ | ⟨a, l, c, m, n, D, Pl, hcs, _, hl, hm, hmm, _, hel⟩
  · simp [Value.cells] at hcs
    obtain ⟨rfl, rfl, rfl⟩ := hcs
    exact ⟨[], none, 0, rfl, by simp, rfl, by simp, fun h => absurd h (by simp)⟩
  · simp [Value.cells] at hcs
    obtain ⟨rfl, rfl, rfl⟩ := hcs
    have hlm : len ≤ m := by rw [hmm]; split <;> omega
    have hel' : ∀ i, ∃ o : S2, i < len → w.cell? (a.add (i * 2)) = some (.string o.f0) ∧ w.cell? (a.add (i * 2 + 1)) = some (.int .i64 o.f1) := by
      intro i
      by_cases hil : i < len
      · obtain ⟨cs', hc, ht'⟩ := hel i (by omega)
        rw [hC] at hc
        obtain ⟨ys, n', hn', hy, hlen, hyl, hg⟩ := DataW.trod_struct Tryd.underlying133 ht'
        obtain ⟨_, hcl, hat⟩ := World.cells?_some hc
        have hone : oneCellFields Tryd.prog _ = true := (by kernel_rfl : oneCellFields Tryd.prog (match Tryd.prog.underlying 133 with | some (.struct fs) => fs | _ => #[]) = true)
        have hl3 : cs'.length = 2 := by simpa using hcl
        match cs', hl3, hat, hg with
        | [u0, u1], _, hat, hg =>
          have g0 := hg 0 _ rfl
          have g1 := hg 1 _ rfl
          rw [List.getElem?_eq_getElem (by simp at hyl; omega)] at g0 g1
          obtain ⟨s, e0, _, _⟩ := DataW.trod_string (cs := [u0]) Tryd.underlying9 g0
          obtain ⟨z, e1, _, _⟩ := DataW.trod_int (cs := [u1]) Tryd.underlying3 g1
          simp only [List.cons.injEq, and_true] at e0 e1
          subst e0; subst e1
          refine ⟨⟨s, z⟩, fun _ => ⟨?_, ?_⟩⟩
          · have := hat 0 (by omega)
            rw [Go.Deep.add_add] at this
            simpa using this
          · have := hat 1 (by omega)
            rw [← Go.Deep.add_add, this]; simp
      · exact ⟨z133, fun h => absurd h hil⟩
    obtain ⟨g, hg⟩ := Classical.axiomOfChoice hel'
    have hlen : ((List.range len).map g).length = len := by simp
    refine ⟨(List.range len).map g, some a, cap, by rw [hlen], by rw [hlen]; exact hl, ?_⟩
    rw [hlen]
    refine ⟨hlen, by unfold maxLen at hm; omega, fun hp => ⟨a, rfl, fun j x hj => ?_⟩⟩
    have hjl : j < len := by have := (List.getElem?_eq_some_iff.1 hj).1; rwa [hlen] at this
    have hx : x = g j := by
      rw [List.getElem?_map, List.getElem?_range hjl] at hj
      simpa using hj.symm
    subst hx
    obtain ⟨h0, h1⟩ := hg j hjl
    refine ⟨_, rfl, pair_mk w _, fun i u hu => ?_⟩
    match i with
    | 0 => simp at hu; subst hu; exact h0
    | 1 => simp at hu; subst hu; exact h1
    | i + 2 => simp at hu
end Go.Proofs.YtnegblckbomgdaaDoor.Ht
end
