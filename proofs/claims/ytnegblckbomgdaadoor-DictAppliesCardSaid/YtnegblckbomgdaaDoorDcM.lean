/- Whether a map has just what the document's has; the document's changes applied. -/
import Derived.Test.YtnegblckbomgdaaDoorDcJ
import Derived.Test.YtnegblckbomgdaaDoorDcW
import Derived.Deep.DeepCutAuto
set_option linter.unusedVariables false
set_option linter.unusedSimpArgs false
namespace Go.Proofs.YtnegblckbomgdaaDoor.Ht
open Go Go.RowKit Go.Shelf Go.Proofs.YtnegblckbomgdaaDoor.Mem Go.Proofs.YtnegblckbomgdaaDoor.PA Go.Proofs.YtnegblckbomgdaaDoorW.PrintWords Go.Proofs.YtnegblckbomgdaaDoor.U64 Go.Proofs.YtnegblckbomgdaaDoor.Bs Go.Proofs.YtnegblckbomgdaaDoor

theorem eqConf (d : Nat) (w : World) (x0 y0 x1 y1 : Int) : (Op.equalIn (d + 2) 24 (.agg #[.int .u64 x0, .int .i64 x1]) (.agg #[.int .u64 y0, .int .i64 y1])).run Tryd.prog w = .ok (x0 == y0 && x1 == y1) w := by
  refine eqA_of Tryd.underlying24 (by kernel_rfl) ?_
  refine eqf_cons (by rfl) (by go_simp; rfl) (by go_simp; rfl) (by go_simp) ?_
  exact eqf_last (by rfl) (by go_simp; rfl) (by go_simp; rfl) (by go_simp)
attribute [local go_sem high] eqConf

set_option maxHeartbeats 1000000 in
theorem conf_w' (y bits n : Int) (p : Option Addr) (w : World) : Calls Tryd.prog 32 #[.agg #[.int .u64 y, .int .i64 bits, .int .i64 n, .pointer p]] w (Ret (fun v _ => v = .agg #[.int .u64 y, .int .i64 bits]) w) := by
  go_enter Tryd.func32, Tryd.ntmps32
  go_wp2
  refine bodyPost_ret (results_c1 rfl _ _ (w.heap.size + 1) 24 #[.int .u64 y, .int .i64 bits] (0, 0) _ rfl (heap_k1 w _ _) Tryd.underlying24 rfl (by kernel_rfl)) rfl ?_
  exact ⟨_, rfl, rfl, ((Below.refl _ _).alloc (Nat.le_refl _) _).alloc (by simp) _⟩
def SmI (w : World) (m0 m1 m2 m3 q0 q1 s t : Value) (n k : Nat) (v26 : Value) (wr : World) (_u : Unit) : Prop :=
  ∃ j : Nat, v26 = .int .i64 (j : Int) ∧ j + k = n ∧ wr.heap[w.heap.size]? = some (.cells #[m0, m1, m2, m3] MT (0, 0)) ∧ wr.heap[w.heap.size + 1]? = some (.cells #[q0, q1] CT (0, 0)) ∧ wr.heap[w.heap.size + 1 + 1]? = some (.cells #[s, t] RT (0, 0)) ∧ Below w.heap.size w wr

set_option maxRecDepth 100000 in
set_option maxHeartbeats 8000000 in
theorem sames_w (c : Cf) (K K' : Nat → Prop) (L : List Pr) (N : Nat) (y b n : Int) (p : Option Addr) (A1 A2 : Option Addr) (c1 c2 : Nat) (w : World) (hN : N = L.length) (hS : Srt L) (hSm : Sm L)
    (hM : MapV c K w (.agg #[.int .u64 y, .int .i64 b, .int .i64 n, .pointer p]) L) (h1 : SlV K' w (.slice A1 N c1) (ksV L)) (h2 : SlV K' w (.slice A2 N c2) (xsV L)) (hl : L.length ≤ 1000) (hT : Tab w) :
    Calls Tryd.prog 57 #[.agg #[.int .u64 y, .int .i64 b, .int .i64 n, .pointer p], .agg #[.int .u64 y, .int .i64 b], .agg #[.slice A1 N c1, .slice A2 N c2]] w (Ret (fun r _ => r = .bool true) w) := by
  have HCf := Lib.hid fun V => (show Calls Tryd.prog 32 #[.agg #[.int .u64 y, .int .i64 b, .int .i64 n, .pointer p]] V (Ret (fun v _ => v = .agg #[.int .u64 y, .int .i64 b]) V) from conf_w' y b n p V)
  have HLen := Lib.hid fun V (hw : Below w.heap.size w V) => mlen_c c K _ L V (hM.below hw)
  rw [← hN] at HLen
  have HKey := Lib.hid fun V (hw : Below w.heap.size w V) => keys_c c K _ L V (hM.below hw) hl (hT.below hw)
  have HWd := Lib.hid fun (u : Value) (J : Nat → Prop) V (hu : SlV J V u (ksV L)) (hw : Below w.heap.size w V) => words_c J K' u _ L L (by omega) V hu (h1.below hw)
  have HGet := Lib.hid fun (j : Nat) (e : Pr) (he : L[j]? = some e) V (hw : Below w.heap.size w V) => (show Calls Tryd.prog 27 #[.agg #[.int .u64 y, .int .i64 b, .int .i64 n, .pointer p], .string e.1] V (Ret (fun v _ => v = .tuple #[.int .i64 e.2, .bool true]) V) from got_at' hS he ▸ mget_c c K _ L e.1 (hSm e (List.mem_of_getElem? he)) V (hM.below hw) (by omega))
  have H1 := Lib.hid h1; have H2 := Lib.hid h2; have HN := Lib.hid hN
  have hnn : (N : Int) ≤ 1000 := by omega
  simp only [decide_true] at HWd
  clear hM h1 h2 hl hT hS hSm hN
  have HB := Lib.hid ((((Below.refl w.heap.size w).alloc (Nat.le_refl _) (.cells #[.int .u64 y, .int .i64 b, .int .i64 n, .pointer p] MT)).alloc (by simp) (.cells #[.int .u64 y, .int .i64 b] CT)).alloc (by simp; omega) (.cells #[.slice A1 N c1, .slice A2 N c2] RT))
  have HB0 := Lib.hid (blk_alloc (blk_alloc (blk_new w (.cells #[.int .u64 y, .int .i64 b, .int .i64 n, .pointer p] MT)) (.cells #[.int .u64 y, .int .i64 b] CT)) (.cells #[.slice A1 N c1, .slice A2 N c2] RT))
  have HB1 := Lib.hid (blk_alloc (heap_k1 w (.cells #[.int .u64 y, .int .i64 b, .int .i64 n, .pointer p] MT) (.cells #[.int .u64 y, .int .i64 b] CT)) (.cells #[.slice A1 N c1, .slice A2 N c2] RT))
  have HB2 := Lib.hid (heap_k2 w (.cells #[.int .u64 y, .int .i64 b, .int .i64 n, .pointer p] MT) (.cells #[.int .u64 y, .int .i64 b] CT) (.cells #[.slice A1 N c1, .slice A2 N c2] RT))
  go_enter Tryd.func57, Tryd.ntmps57
  go_upto_region 1 with fail
  generalize ((w.alloc (.cells #[.int .u64 y, .int .i64 b, .int .i64 n, .pointer p] MT)).alloc (.cells #[.int .u64 y, .int .i64 b] CT)).alloc (.cells #[.slice A1 N c1, .slice A2 N c2] RT) = V at *
  obtain ⟨⟨a0, a1, a2, a3⟩, -⟩ := box4 HB0.out
  obtain ⟨⟨q0, q1⟩, -⟩ := box2 HB1.out
  obtain ⟨⟨r0, r1⟩, -⟩ := box2 HB2.out
  have hg : w.heap.size ≤ V.heap.size := HB.out.size
  go_region_held3 (fun w' => (w'.cell? ⟨w.heap.size, 0, none⟩ = some (.int .u64 y) ∧ w'.cell? ⟨w.heap.size, 1, none⟩ = some (.int .i64 b) ∧ w'.cell? ⟨w.heap.size, 2, none⟩ = some (.int .i64 n) ∧ w'.cell? ⟨w.heap.size, 3, none⟩ = some (.pointer p)) ∧ (w'.cell? ⟨w.heap.size + 1, 0, none⟩ = some (.int .u64 y) ∧ w'.cell? ⟨w.heap.size + 1, 1, none⟩ = some (.int .i64 b)) ∧ w'.cell? ⟨w.heap.size + 1 + 1, 0, none⟩ = some (.slice A1 N c1))
    ((refine ⟨⟨?_, ?_, ?_, ?_⟩, ⟨?_, ?_⟩, ?_⟩ <;> first | (with_reducible assumption) | (with_reducible exact cell_below a0 (by assumption)) | (with_reducible exact cell_below a1 (by assumption)) | (with_reducible exact cell_below a2 (by assumption)) | (with_reducible exact cell_below a3 (by assumption)) | (with_reducible exact cell_below q0 (by assumption)) | (with_reducible exact cell_below q1 (by assumption)) | (with_reducible exact cell_below r0 (by assumption)) | (go_keep; done)))
    (first
      | (go_at_call 32; (with_reducible refine (HCf.out _).mono ?_); rintro e w5 ⟨v, rfl, rfl, hb5⟩; have hb5 := below_trans (w1 := World.drew _) (Below.refl _ _).drew hb5)
      | (go_at_call 26; (with_reducible refine (HKey.out _ (below_trans HB.out hb5)).mono ?_); rintro e w6 ⟨v, rfl, hk6, hb6⟩; have hb6 := below_trans hb5 hb6)
      | (go_at_call 30; (with_reducible refine (HWd.out _ _ _ hk6 (below_trans HB.out hb6)).mono ?_); rintro e w7 ⟨v, rfl, rfl, hb7⟩; have hb7 := below_trans hb6 hb7)
      | fail)
  have HB7 := Lib.hid (below_trans HB.out hb7)
  have HM7 := Lib.hid (blk_below HB0.out hb7); have HQ7 := Lib.hid (blk_below HB1.out hb7); have HR7 := Lib.hid (blk_below HB2.out hb7)
  clear hb5 hb6 hb7 hk6 a0 a1 a2 a3 q0 q1 r0 r1
  obtain ⟨⟨r0, r1⟩, -⟩ := box2 HR7.out
  go_wp2_with fail
  go_loopg [26] N (fun k v26 wr => Aside (SmI w (.int .u64 y) (.int .i64 b) (.int .i64 n) (.pointer p) (.int .u64 y) (.int .i64 b) (.slice A1 N c1) (.slice A2 N c2) N k v26 wr ()))
  case atStart =>
    show SmI _ _ _ _ _ _ _ _ _ _ _ _ _ _
    exact ⟨0, rfl, by omega, HM7.out, HQ7.out, HR7.out, HB7.out⟩
  case round =>
    obtain ⟨j, rfl, hj, BM, BQ, BR, hB⟩ := hrel.out
    clear hrel r0 r1
    by_cases hlt : j < N
    · have hltI : (j : Int) < (N : Int) := by omega
      obtain ⟨gk, rfl⟩ : ∃ g, gk = g + 1 := ⟨gk - 1, by omega⟩
      obtain ⟨⟨ek, ex⟩, he⟩ : ∃ e, L[j]? = some e := ⟨_, List.getElem?_eq_getElem (by rw [← HN.out]; exact hlt)⟩
      obtain ⟨ad, rfl, hk⟩ := H1.out.addr (by rw [ksV_length, ← HN.out]; omega)
      obtain ⟨ae, rfl, hx⟩ := H2.out.addr (by rw [xsV_length, ← HN.out]; omega)
      have hk := cell_below (hk j (.string ek) (by simp [ksV, he])) hB
      have hx := hx j (.int .i64 ex) (by simp [xsV, he])
      have HX := Lib.hid hx
      have HG := Lib.hid (HGet.out j _ he _ hB)
      dsimp only at HG
      obtain ⟨⟨a0, a1, a2, a3⟩, -⟩ := box4 BM
      have HBM := Lib.hid BM; have HBQ := Lib.hid BQ; have HBR := Lib.hid BR; have HBB := Lib.hid hB
      clear BM BQ BR hB hx he
      go_wp2_with (first
        | (go_at_call 27; ((with_reducible refine (HG.out).mono ?_); rintro e w8 ⟨v, rfl, rfl, hb8⟩; obtain ⟨⟨r0, r1⟩, -⟩ := box2 (blk_below HBR.out hb8); have hx := cell_below HX.out (below_trans HBB.out hb8); have HB8 := Lib.hid hb8; clear hb8))
        | fail)
      go_roundg gk
      case measure => omega
      case rel =>
        show SmI _ _ _ _ _ _ _ _ _ _ _ _ _ _
        exact ⟨j + 1, by first | rfl | (push_cast; rfl), by omega, blk_below HBM.out HB8.out, blk_below HBQ.out HB8.out, blk_below HBR.out HB8.out, below_trans HBB.out HB8.out⟩
    · have HBB := Lib.hid hB
      obtain ⟨⟨a0, a1, a2, a3⟩, -⟩ := box4 BM
      obtain ⟨⟨r0, r1⟩, -⟩ := box2 BR
      clear BM BQ BR hB
      go_upto_region 10 with fail
      go_region_held3 (fun w' => (w'.cell? ⟨w.heap.size, 0, none⟩ = some (.int .u64 y) ∧ w'.cell? ⟨w.heap.size, 1, none⟩ = some (.int .i64 b) ∧ w'.cell? ⟨w.heap.size, 2, none⟩ = some (.int .i64 n) ∧ w'.cell? ⟨w.heap.size, 3, none⟩ = some (.pointer p)) ∧ w'.cell? ⟨w.heap.size + 1 + 1, 0, none⟩ = some (.slice A1 N c1))
        ((refine ⟨⟨?_, ?_, ?_, ?_⟩, ?_⟩ <;> first | (with_reducible assumption) | (with_reducible exact cell_below a0 (by assumption)) | (with_reducible exact cell_below a1 (by assumption)) | (with_reducible exact cell_below a2 (by assumption)) | (with_reducible exact cell_below a3 (by assumption)) | (with_reducible exact cell_below r0 (by assumption)) | (go_keep; done)))
        (first
          | (go_at_call 29; (with_reducible refine (HLen.out _ (HBB.out.drew)).mono ?_); rintro e w9 ⟨v, rfl, rfl, hb9⟩; have hb9 := below_trans (w1 := World.drew _) (Below.refl _ _).drew hb9)
          | fail)
      have HEND := Lib.hid (below_trans HBB.out hb9)
      go_wp2_with fail
      go_returns
      exact ⟨_, rfl, rfl, HEND.out⟩
/-- A MAP HAS JUST WHAT THE DOCUMENT's HAS, AND THAT HASH. -/
theorem sames_c (c : Cf) (K K' : Nat → Prop) (y b n : Int) (p : Option Addr) (u : Value) (L : List Pr) (w : World) (hM : MapV c K w (.agg #[.int .u64 y, .int .i64 b, .int .i64 n, .pointer p]) L) (hR : RefV K' w u L) (hl : L.length ≤ 1000) (hT : Tab w) :
    Calls Tryd.prog 57 #[.agg #[.int .u64 y, .int .i64 b, .int .i64 n, .pointer p], .agg #[.int .u64 y, .int .i64 b], u] w (Ret (fun r _ => r = .bool true) w) := by
  obtain ⟨-, -, -, -, -, -, hS, hSm⟩ := mform hM
  obtain ⟨s, t, rfl, h1, h2⟩ := hR
  obtain ⟨A1, c1, rfl⟩ := SlV.form' h1
  obtain ⟨A2, c2, rfl⟩ := SlV.form' h2
  rw [ksV_length] at h1 ⊢
  rw [xsV_length] at h2 ⊢
  exact sames_w c K K' L L.length y b n p A1 A2 c1 c2 w rfl hS hSm hM h1 h2 hl hT

abbrev RCT : TypeId := 93
/-- a slice of changes, read by its cells (the document's, or the code's) -/
def CellsV (w : World) (v : Value) (D : List Ch) : Prop := ∃ A c, v = .slice A D.length c ∧ (0 < D.length → ∃ ad : Addr, A = some ad ∧ ∀ (j : Nat) (o : Ch), D[j]? = some o →
  w.cell? (ad.add (j * 5)) = some (.string o.f0) ∧ w.cell? ⟨(ad.add (j * 5)).block, (ad.add (j * 5)).off + 1, none⟩ = some (.bool o.f1) ∧ w.cell? ⟨(ad.add (j * 5)).block, (ad.add (j * 5)).off + 2, none⟩ = some (.bool o.f2) ∧
      w.cell? ⟨(ad.add (j * 5)).block, (ad.add (j * 5)).off + 3, none⟩ = some (.int .i64 o.f3) ∧ w.cell? ⟨(ad.add (j * 5)).block, (ad.add (j * 5)).off + 4, none⟩ = some (.int .i64 o.f4))
theorem CellsV.below {w w' : World} {v : Value} {D : List Ch} (h : CellsV w v D) (hb : Below w.heap.size w w') : CellsV w' v D := by
  obtain ⟨A, c, h1, h2⟩ := h
  refine ⟨A, c, h1, fun hp => ?_⟩
  obtain ⟨ad, e, h3⟩ := h2 hp
  refine ⟨ad, e, fun j o ho => ?_⟩
  obtain ⟨k0, k1, k2, k3, k4⟩ := h3 j o ho
  exact ⟨cell_below k0 hb, cell_below k1 hb, cell_below k2 hb, cell_below k3 hb, cell_below k4 hb⟩
theorem CellsV.at {w : World} {A : Option Addr} {n c : Nat} {D : List Ch} (h : CellsV w (.slice A n c) D) (j : Nat) (o : Ch) (ho : D[j]? = some o) :
    ∃ ad, A = some ad ∧ w.cell? (ad.add (j * 5)) = some (.string o.f0) ∧ w.cell? ⟨(ad.add (j * 5)).block, (ad.add (j * 5)).off + 1, none⟩ = some (.bool o.f1) ∧ w.cell? ⟨(ad.add (j * 5)).block, (ad.add (j * 5)).off + 2, none⟩ = some (.bool o.f2) ∧
      w.cell? ⟨(ad.add (j * 5)).block, (ad.add (j * 5)).off + 3, none⟩ = some (.int .i64 o.f3) ∧ w.cell? ⟨(ad.add (j * 5)).block, (ad.add (j * 5)).off + 4, none⟩ = some (.int .i64 o.f4) := by
  obtain ⟨A', c', he, h2⟩ := h
  injection he with e1 e2 e3
  subst e1
  have hj := (List.getElem?_eq_some_iff.1 ho).1
  obtain ⟨ad, e, h3⟩ := h2 (by omega)
  exact ⟨ad, e, h3 j o ho⟩

def OneR (g : Nat) (w V0 : World) (s t : Value) (L : List Pr) (wr : World) : Prop :=
  wr.heap[g]? = some (.cells #[s, t] RT (0, 0)) ∧ (∀ x, x ≠ g → x < V0.heap.size → wr.heap[x]? = V0.heap[x]?) ∧ RefV (KB w.heap.size V0.heap.size) wr (.agg #[s, t]) L ∧ Below w.heap.size w wr ∧ V0.heap.size ≤ wr.heap.size
section
variable {g : Nat} {w V0 V w1 wr : World} {s t s' t' : Value} {L L' : List Pr} {K : Nat → Prop}
theorem OneR.below (h : OneR g w V0 s t L wr) (hb : Below wr.heap.size wr w1) : OneR g w V0 s t L w1 :=
  ⟨blk_below h.1 hb, fun x h1 h2 => (hb.block x (Nat.lt_of_lt_of_le h2 h.2.2.2.2)).trans (h.2.1 x h1 h2), h.2.2.1.below hb, below_trans h.2.2.2.1 hb, Nat.le_trans h.2.2.2.2 hb.size⟩
theorem OneR.form (h : OneR g w V0 s t L wr) : ∃ A1 n1 c1 A2 n2 c2, s = .slice A1 n1 c1 ∧ t = .slice A2 n2 c2 := by
  obtain ⟨s', t', e, h1, h2⟩ := h.2.2.1
  simp only [Value.agg.injEq, Array.mk.injEq, List.cons.injEq, and_true] at e
  obtain ⟨rfl, rfl⟩ := e
  obtain ⟨A1, n1, c1, rfl⟩ := h1.form
  obtain ⟨A2, n2, c2, rfl⟩ := h2.form
  exact ⟨A1, n1, c1, A2, n2, c2, rfl, rfl⟩
theorem oner_start (hM : RefV K w (.agg #[s, t]) L) (hb : Below w.heap.size w V0) (hg : V0.heap[g]? = some (.cells #[s, t] RT (0, 0))) : OneR g w V0 s t L V0 :=
  ⟨hg, fun _ _ _ => rfl, (hM.bound.below hb).mono fun x hx => Or.inl hx.2, hb, Nat.le_refl _⟩
theorem oner_put (h : OneR g w V0 s t L V) (hg : w.heap.size ≤ g) (hgV : g < V0.heap.size) (h1 : Below V.heap.size V w1) (hm : RefV (Fresh V) w1 (.agg #[s', t']) L') :
    OneR g w V0 s' t' L' ((w1.setCell ⟨g, 0, none⟩ s').setCell ⟨g, 1, none⟩ t') := by
  have hn : ¬ KB w.heap.size V0.heap.size g := fun h => by rcases h with h | h <;> omega
  have hm2 : RefV (KB w.heap.size V0.heap.size) w1 (.agg #[s', t']) L' := hm.mono fun x hx => Or.inr (Nat.le_trans h.2.2.2.2 hx)
  have hB := below_trans h.2.2.2.1 h1
  refine ⟨put2 (blk_below h.1 h1), fun x hx hl => ?_, refv_far (refv_far hm2 _ 0 _ hn) _ 1 _ hn, (hB.setCell (p := ⟨g, 0, none⟩) hg _).setCell (p := ⟨g, 1, none⟩) hg _, ?_⟩
  · rw [Below.heap_setCell _ _ _ _ hx, Below.heap_setCell _ _ _ _ hx]
    exact (h1.block x (Nat.lt_of_lt_of_le hl h.2.2.2.2)).trans (h.2.1 x hx hl)
  · have := Nat.le_trans h.2.2.2.2 h1.size
    simpa using this
theorem oner_end {r : Nat} {e0 e1 : Value} (h : OneR g w V0 s t L V) (hr : w.heap.size ≤ r) (hrV : r < V0.heap.size) (hrb : V0.heap[r]? = some (.cells #[e0, e1] RT (0, 0))) (hne : r ≠ g) :
    V.heap[r]? = some (.cells #[e0, e1] RT (0, 0)) ∧ ((V.setCell ⟨r, 0, none⟩ s).setCell ⟨r, 1, none⟩ t).heap[r]? = some (.cells #[s, t] RT (0, 0)) ∧
      RefV (fun _ => True) ((V.setCell ⟨r, 0, none⟩ s).setCell ⟨r, 1, none⟩ t) (.agg #[s, t]) L ∧ Below w.heap.size w ((V.setCell ⟨r, 0, none⟩ s).setCell ⟨r, 1, none⟩ t) := by
  have hn : ¬ KB w.heap.size V0.heap.size r := fun h => by rcases h with h | h <;> omega
  have hV : V.heap[r]? = some (.cells #[e0, e1] RT (0, 0)) := (h.2.1 r hne hrV).trans hrb
  exact ⟨hV, put2 hV, (refv_far (refv_far h.2.2.1 _ 0 _ hn) _ 1 _ hn).mono fun _ _ => trivial, (h.2.2.2.1.setCell (p := ⟨r, 0, none⟩) hr _).setCell (p := ⟨r, 1, none⟩) hr _⟩
theorem rcuts_mv (h : RefV K V (.agg #[s, t]) L) (hl : L.length ≤ 1000) (k : ByteArray) :
    Calls Tryd.prog 70 #[.agg #[s, t], .string k] V (Ret (fun v' w' => ∃ A1 n1 c1 A2 n2 c2, v' = .agg #[.slice A1 n1 c1, .slice A2 n2 c2] ∧ RefV (Fresh V) w' (.agg #[.slice A1 n1 c1, .slice A2 n2 c2]) (del L k)) V) :=
  ret_of (refcut_c K _ L k V h (by omega)) fun v' w' hB hv => by
    have h0 := hv
    obtain ⟨s', t', rfl, h1, h2⟩ := hv
    obtain ⟨A1, n1, c1, rfl⟩ := h1.form
    obtain ⟨A2, n2, c2, rfl⟩ := h2.form
    exact ⟨A1, n1, c1, A2, n2, c2, rfl, h0⟩
theorem app1_sm {L : List Pr} (h : Sm L) (d : Ch) (hd : d.f0.size ≤ 1000000) : Sm (app1 L d) := by
  unfold app1; split
  · exact h.ins _ _ hd
  · exact h.del _
end
/-- a document's map that a function gives -/
def RGives (L : List Pr) (u : Value) (w : World) : Prop := ∃ (A1 : Option Addr) (n1 c1 : Nat) (A2 : Option Addr) (n2 c2 : Nat), u = .agg #[.slice A1 n1 c1, .slice A2 n2 c2] ∧ RefV (fun _ => True) w (.agg #[.slice A1 n1 c1, .slice A2 n2 c2]) L

def RpI (w V0 : World) (L : List Pr) (D : List Ch) (N k : Nat) (v9 : Value) (wr : World) (_u : Unit) : Prop :=
  ∃ (i : Nat) (s t : Value), v9 = .int .i64 (i : Int) ∧ i + k = N ∧ (appL L (D.take i)).length ≤ L.length + i ∧ Srt (appL L (D.take i)) ∧ Sm (appL L (D.take i)) ∧ OneR w.heap.size w V0 s t (appL L (D.take i)) wr

set_option maxRecDepth 100000 in
set_option maxHeartbeats 8000000 in
theorem rapply_w (K : Nat → Prop) (L : List Pr) (D : List Ch) (A1 A2 : Option Addr) (n1 n2 c1 c2 : Nat) (A : Option Addr) (cs N : Nat) (w : World) (hM : RefV K w (.agg #[.slice A1 n1 c1, .slice A2 n2 c2]) L) (hD : CellsV w (.slice A N cs) D) (hN : N = D.length)
    (hS : Srt L) (hSm : Sm L) (hl : L.length + D.length ≤ 1000) (hk : ∀ d ∈ D, d.f0.size ≤ 1000000) :
    Calls Tryd.prog 59 #[.agg #[.slice A1 n1 c1, .slice A2 n2 c2], .slice A N cs] w (Ret (fun u w' => RGives (appL L D) u w') w) := by
  have HD := Lib.hid hD; have HK := Lib.hid hk; have HN := Lib.hid hN
  have hB0 := ((Below.refl w.heap.size w).alloc (Nat.le_refl _) (.cells #[.slice A1 n1 c1, .slice A2 n2 c2] RT)).alloc (by simp) (.cells #[.slice none 0 0, .slice none 0 0] RT)
  have HO0 := Lib.hid (oner_start hM hB0 (blk_alloc (blk_new w (.cells #[.slice A1 n1 c1, .slice A2 n2 c2] RT)) (.cells #[.slice none 0 0, .slice none 0 0] RT)))
  have HR := Lib.hid (heap_k1 w (.cells #[.slice A1 n1 c1, .slice A2 n2 c2] RT) (.cells #[.slice none 0 0, .slice none 0 0] RT))
  have hsz : ((w.alloc (.cells #[.slice A1 n1 c1, .slice A2 n2 c2] RT)).alloc (.cells #[.slice none 0 0, .slice none 0 0] RT)).heap.size = w.heap.size + 1 + 1 := by simp
  have HSZ := Lib.hid hsz; have HS0 := Lib.hid hS; have HS1 := Lib.hid hSm
  have hNI : (N : Int) ≤ 1000 := by omega
  clear hD hk hM hB0 hsz hN hS hSm
  go_enter Tryd.func59, Tryd.ntmps59
  go_wp2_with fail
  generalize (w.alloc (.cells #[.slice A1 n1 c1, .slice A2 n2 c2] RT)).alloc (.cells #[.slice none 0 0, .slice none 0 0] RT) = V0 at *
  go_loopg [9] N (fun k v9 wr => Aside (RpI w V0 L D N k v9 wr ()))
  case atStart =>
    show RpI _ _ _ _ _ _ _ _ _
    exact ⟨0, _, _, rfl, by omega, by simp [appL], HS0.out, HS1.out, HO0.out⟩
  case round =>
    obtain ⟨i, s, t, rfl, hik, hln, hsr, hss, hO⟩ := hrel.out
    clear hrel HO0
    obtain ⟨A3, n3, c3, A4, n4, c4, rfl, rfl⟩ := hO.form
    by_cases hlt : i < N
    · have hltI : (i : Int) < (N : Int) := by omega
      obtain ⟨gk, rfl⟩ : ∃ g, gk = g + 1 := ⟨gk - 1, by omega⟩
      obtain ⟨d, hd⟩ : ∃ d, D[i]? = some d := ⟨_, List.getElem?_eq_getElem (by rw [← HN.out]; exact hlt)⟩
      have hta : appL L (D.take (i + 1)) = app1 (appL L (D.take i)) d := by
        rw [List.take_add_one, hd]; simp [appL, List.foldl_append]
      obtain ⟨ad, rfl, x0, x1, x2, x3, x4⟩ := HD.out.at i d hd
      have x0 := cell_below x0 hO.2.2.2.1
      have x1 := cell_below x1 hO.2.2.2.1
      have x2 := cell_below x2 hO.2.2.2.1
      have x3 := cell_below x3 hO.2.2.2.1
      have x4 := cell_below x4 hO.2.2.2.1
      have hdk := HK.out d (List.mem_of_getElem? hd)
      have hl1 : (app1 (appL L (D.take i)) d).length ≤ L.length + (i + 1) := Nat.le_trans (app1_len hsr d) (by omega)
      have hs1 := app1_srt hsr d
      have hs2 := app1_sm hss d hdk
      rw [← hta] at hl1 hs1 hs2
      have HL1 := Lib.hid hl1; have HTA := Lib.hid hta; have HSR := Lib.hid hs1; have HSS := Lib.hid hs2
      have hll : (appL L (D.take i)).length ≤ 1000 := by have := HN.out; omega
      clear hta hl1 hs1 hs2
      obtain ⟨k, had, has, was, is⟩ := d
      dsimp only at x0 x1 x2 x3 x4 hdk HTA
      have hbl := (Below.refl wr.heap.size wr).alloc (Nat.le_refl _) (.cells #[.string k, .bool had, .bool has, .int .i64 was, .int .i64 is] RCT)
      have HOV := Lib.hid (hO.below hbl)
      have hbx := blk_new wr (.cells #[.string k, .bool had, .bool has, .int .i64 was, .int .i64 is] RCT)
      have HST := Lib.hid (rsets_mv hsr hss HOV.out.2.2.1 hll k is (Below.refl _ _))
      have HCT := Lib.hid (rcuts_mv HOV.out.2.2.1 hll k)
      obtain ⟨⟨q0, q1⟩, -⟩ := box2 HOV.out.1
      have z0 : (wr.alloc (.cells #[.string k, .bool had, .bool has, .int .i64 was, .int .i64 is] RCT)).cell? ⟨wr.heap.size, 0, none⟩ = some (.string k) := blk_cell hbx 0
      have z2 : (wr.alloc (.cells #[.string k, .bool had, .bool has, .int .i64 was, .int .i64 is] RCT)).cell? ⟨wr.heap.size, 2, none⟩ = some (.bool has) := blk_cell hbx 2
      have z4 : (wr.alloc (.cells #[.string k, .bool had, .bool has, .int .i64 was, .int .i64 is] RCT)).cell? ⟨wr.heap.size, 4, none⟩ = some (.int .i64 is) := blk_cell hbx 4
      clear hO hd hbl hbx hll hsr hss
      cases has with
      | true =>
        go_wp2_with (first
          | (go_at_call 71; ((with_reducible refine (HST.out).mono ?_); rintro e w1 ⟨v, rfl, ⟨B1, m1, d1, B2, m2, d2, rfl, hm⟩, hb1⟩; have HP := Lib.hid (oner_put HOV.out (Nat.le_refl _) (by have := HSZ.out; omega) hb1 hm); obtain ⟨⟨e0, e1⟩, f0, f1⟩ := box2 (blk_below HOV.out.1 hb1); clear hm hb1))
          | fail)
        go_roundg gk
        case measure => omega
        case rel =>
          show RpI _ _ _ _ _ _ _ _ _
          exact ⟨i + 1, _, _, by first | rfl | (push_cast; rfl), by omega, HL1.out, HSR.out, HSS.out, by rw [HTA.out]; exact HP.out⟩
      | false =>
        go_wp2_with (first
          | (go_at_call 70; ((with_reducible refine (HCT.out).mono ?_); rintro e w1 ⟨v, rfl, ⟨B1, m1, d1, B2, m2, d2, rfl, hm⟩, hb1⟩; have HP := Lib.hid (oner_put HOV.out (Nat.le_refl _) (by have := HSZ.out; omega) hb1 hm); obtain ⟨⟨e0, e1⟩, f0, f1⟩ := box2 (blk_below HOV.out.1 hb1); clear hm hb1))
          | fail)
        go_roundg gk
        case measure => omega
        case rel =>
          show RpI _ _ _ _ _ _ _ _ _
          exact ⟨i + 1, _, _, by first | rfl | (push_cast; rfl), by omega, HL1.out, HSR.out, HSS.out, by rw [HTA.out]; exact HP.out⟩
    · have htk : D.take i = D := List.take_of_length_le (by have := HN.out; omega)
      rw [htk] at hO
      have HE := Lib.hid (oner_end hO (r := w.heap.size + 1) (by omega) (by have := HSZ.out; omega) HR.out (by omega))
      obtain ⟨⟨q0, q1⟩, -⟩ := box2 hO.1
      obtain ⟨⟨e0, e1⟩, f0, f1⟩ := box2 HE.out.1
      clear hO htk hln hsr hss
      go_wp2_with fail
      refine bodyPost_ret (results_c1 rfl _ _ (w.heap.size + 1) RT #[.slice A3 n3 c3, .slice A4 n4 c4] (0, 0) _ rfl HE.out.2.1 Tryd.underlying35 rfl (by kernel_rfl)) rfl ?_
      exact ⟨_, rfl, ⟨_, _, _, _, _, _, rfl, HE.out.2.2.1⟩, HE.out.2.2.2⟩
end Go.Proofs.YtnegblckbomgdaaDoor.Ht
