/- Changes applied to a map; whether two maps have the same. -/
import Derived.Test.YtnegblckbomgdaaDoorDcI
import Derived.Deep.DeepCutAuto
set_option linter.unusedVariables false
set_option linter.unusedSimpArgs false
namespace Go.Proofs.YtnegblckbomgdaaDoor.Ht
open Go Go.RowKit Go.Shelf Go.Proofs.YtnegblckbomgdaaDoor.Mem Go.Proofs.YtnegblckbomgdaaDoor.PA Go.Proofs.YtnegblckbomgdaaDoorW.PrintWords Go.Proofs.YtnegblckbomgdaaDoor.U64 Go.Proofs.YtnegblckbomgdaaDoor.Bs Go.Proofs.YtnegblckbomgdaaDoor

/-- what lies neither in the boxes from m on, below s -/
def KB (m s : Nat) : Nat → Prop := fun x => x < m ∨ s ≤ x
/-- a map's box g among a function's boxes (they lie from w on, below V0); the others are as they were in V0 -/
def One (c : Cf) (y b : Int) (g : Nat) (w V0 : World) (n : Int) (p : Option Addr) (L : List Pr) (wr : World) : Prop :=
  wr.heap[g]? = some (.cells #[.int .u64 y, .int .i64 b, .int .i64 n, .pointer p] MT (0, 0)) ∧ (∀ x, x ≠ g → x < V0.heap.size → wr.heap[x]? = V0.heap[x]?) ∧
    MapV c (KB w.heap.size V0.heap.size) wr (.agg #[.int .u64 y, .int .i64 b, .int .i64 n, .pointer p]) L ∧ Below w.heap.size w wr ∧ V0.heap.size ≤ wr.heap.size
section
variable {c : Cf} {y b : Int} {g : Nat} {w V0 V w1 wr : World} {n n' : Int} {p p' : Option Addr} {L L' : List Pr} {K : Nat → Prop}
theorem One.below (h : One c y b g w V0 n p L wr) (hb : Below wr.heap.size wr w1) : One c y b g w V0 n p L w1 :=
  ⟨blk_below h.1 hb, fun x h1 h2 => (hb.block x (Nat.lt_of_lt_of_le h2 h.2.2.2.2)).trans (h.2.1 x h1 h2), h.2.2.1.below hb, below_trans h.2.2.2.1 hb, Nat.le_trans h.2.2.2.2 hb.size⟩
theorem One.srt (h : One c y b g w V0 n p L wr) : Srt L ∧ Sm L := by
  obtain ⟨p, -, -, h1, h2⟩ := h.2.2.1
  exact ⟨h1, h2⟩
theorem one_start (hM : MapV c K w (.agg #[.int .u64 y, .int .i64 b, .int .i64 n, .pointer p]) L) (hb : Below w.heap.size w V0) (hg : V0.heap[g]? = some (.cells #[.int .u64 y, .int .i64 b, .int .i64 n, .pointer p] MT (0, 0))) : One c y b g w V0 n p L V0 :=
  ⟨hg, fun _ _ _ => rfl, (hM.bound.below hb).mono fun x hx => Or.inl hx.2, hb, Nat.le_refl _⟩
theorem one_put (h : One c y b g w V0 n p L V) (hg : w.heap.size ≤ g) (hgV : g < V0.heap.size) (h1 : Below V.heap.size V w1) (hm : MapV c (New (KB w.heap.size V0.heap.size) V) w1 (.agg #[.int .u64 y, .int .i64 b, .int .i64 n', .pointer p']) L') :
    One c y b g w V0 n' p' L' (put4w w1 g (.int .u64 y) (.int .i64 b) (.int .i64 n') (.pointer p')) := by
  have hn : ¬ KB w.heap.size V0.heap.size g := fun h => by rcases h with h | h <;> omega
  have hm2 : MapV c (KB w.heap.size V0.heap.size) w1 (.agg #[.int .u64 y, .int .i64 b, .int .i64 n', .pointer p']) L' := hm.mono fun x hx => hx.elim id fun hx => Or.inr (Nat.le_trans h.2.2.2.2 hx)
  have hB := below_trans h.2.2.2.1 h1
  refine ⟨put4 (blk_below h.1 h1), fun x hx hl => ?_, mapv_far (mapv_far (mapv_far (mapv_far hm2 _ 0 _ hn) _ 1 _ hn) _ 2 _ hn) _ 3 _ hn, (((hB.setCell (p := ⟨g, 0, none⟩) hg _).setCell (p := ⟨g, 1, none⟩) hg _).setCell (p := ⟨g, 2, none⟩) hg _).setCell (p := ⟨g, 3, none⟩) hg _, ?_⟩
  · rw [Below.heap_setCell _ _ _ _ hx, Below.heap_setCell _ _ _ _ hx, Below.heap_setCell _ _ _ _ hx, Below.heap_setCell _ _ _ _ hx]
    exact (h1.block x (Nat.lt_of_lt_of_le hl h.2.2.2.2)).trans (h.2.1 x hx hl)
  · have := Nat.le_trans h.2.2.2.2 h1.size
    simpa using this
/-- the map put into the result's box -/
theorem one_end {r : Nat} {e0 e1 e2 e3 : Value} (h : One c y b g w V0 n p L V) (hr : w.heap.size ≤ r) (hrV : r < V0.heap.size) (hrb : V0.heap[r]? = some (.cells #[e0, e1, e2, e3] MT (0, 0))) (hne : r ≠ g) :
    V.heap[r]? = some (.cells #[e0, e1, e2, e3] MT (0, 0)) ∧ (put4w V r (.int .u64 y) (.int .i64 b) (.int .i64 n) (.pointer p)).heap[r]? = some (.cells #[.int .u64 y, .int .i64 b, .int .i64 n, .pointer p] MT (0, 0)) ∧
      MapV c (fun _ => True) (put4w V r (.int .u64 y) (.int .i64 b) (.int .i64 n) (.pointer p)) (.agg #[.int .u64 y, .int .i64 b, .int .i64 n, .pointer p]) L ∧ Below w.heap.size w (put4w V r (.int .u64 y) (.int .i64 b) (.int .i64 n) (.pointer p)) := by
  have hn : ¬ KB w.heap.size V0.heap.size r := fun h => by rcases h with h | h <;> omega
  have hV : V.heap[r]? = some (.cells #[e0, e1, e2, e3] MT (0, 0)) := (h.2.1 r hne hrV).trans hrb
  refine ⟨hV, put4 hV, (mapv_far (mapv_far (mapv_far (mapv_far h.2.2.1 _ 0 _ hn) _ 1 _ hn) _ 2 _ hn) _ 3 _ hn).mono fun _ _ => trivial, ?_⟩
  exact (((h.2.2.2.1.setCell (p := ⟨r, 0, none⟩) hr _).setCell (p := ⟨r, 1, none⟩) hr _).setCell (p := ⟨r, 2, none⟩) hr _).setCell (p := ⟨r, 3, none⟩) hr _
theorem cuts_mv {n : Int} (hy : U c.1 = y) (hb : c.2 = b) (h : MapV c K V (.agg #[.int .u64 y, .int .i64 b, .int .i64 n, .pointer p]) L) (hl : L.length ≤ 1000) (k : ByteArray) (hk : k.size ≤ 1000000) (hT : Tab V) :
    Calls Tryd.prog 28 #[.agg #[.int .u64 y, .int .i64 b, .int .i64 n, .pointer p], .string k] V (Ret (fun v' w' => ∃ n' p', v' = .agg #[.int .u64 y, .int .i64 b, .int .i64 n', .pointer p'] ∧ MapV c (New K V) w' (.agg #[.int .u64 y, .int .i64 b, .int .i64 n', .pointer p']) (del L k)) V) :=
  ret_of (mcut_c c K _ L k hk V h (by omega) hT) fun v' w' hB hv => by
    have h0 := hv
    obtain ⟨p', rfl, -⟩ := hv
    exact ⟨_, p', by rw [← hy, ← hb], by rw [← hy, ← hb]; exact h0⟩
end
/-- a map that a function gives -/
def Gives (c : Cf) (y b : Int) (L : List Pr) (u : Value) (w : World) : Prop := ∃ (n : Int) (p : Option Addr), u = .agg #[.int .u64 y, .int .i64 b, .int .i64 n, .pointer p] ∧ MapV c (fun _ => True) w (.agg #[.int .u64 y, .int .i64 b, .int .i64 n, .pointer p]) L

def ApI (c : Cf) (y b : Int) (w V0 : World) (L : List Pr) (D : List Ch) (N k : Nat) (v9 : Value) (wr : World) (_u : Unit) : Prop :=
  ∃ (i : Nat) (n : Int) (p : Option Addr), v9 = .int .i64 (i : Int) ∧ i + k = N ∧ (appL L (D.take i)).length ≤ L.length + i ∧ One c y b w.heap.size w V0 n p (appL L (D.take i)) wr

set_option maxRecDepth 100000 in
set_option maxHeartbeats 8000000 in
theorem apply_w (c : Cf) (K : Nat → Prop) (L : List Pr) (D : List Ch) (y b n : Int) (p : Option Addr) (A : Option Addr) (cs N : Nat) (w : World) (hy : U c.1 = y) (hb : c.2 = b) (hM : MapV c K w (.agg #[.int .u64 y, .int .i64 b, .int .i64 n, .pointer p]) L) (hD : ChV w (.slice A N cs) D) (hN : N = D.length)
    (hl : L.length + D.length ≤ 1000) (hk : ∀ d ∈ D, d.f0.size ≤ 1000000) (hT : Tab w) :
    Calls Tryd.prog 58 #[.agg #[.int .u64 y, .int .i64 b, .int .i64 n, .pointer p], .slice A N cs] w (Ret (fun u w' => Gives c y b (appL L D) u w') w) := by
  have HT := Lib.hid hT; have HD := Lib.hid hD; have HK := Lib.hid hk; have HY := Lib.hid hy; have HBE := Lib.hid hb; have HN := Lib.hid hN
  have hB0 := ((Below.refl w.heap.size w).alloc (Nat.le_refl _) (.cells #[.int .u64 y, .int .i64 b, .int .i64 n, .pointer p] MT)).alloc (by simp) (.cells #[.int .u64 0, .int .i64 0, .int .i64 0, .pointer none] MT)
  have HO0 := Lib.hid (one_start hM hB0 (blk_alloc (blk_new w (.cells #[.int .u64 y, .int .i64 b, .int .i64 n, .pointer p] MT)) (.cells #[.int .u64 0, .int .i64 0, .int .i64 0, .pointer none] MT)))
  have HR := Lib.hid (heap_k1 w (.cells #[.int .u64 y, .int .i64 b, .int .i64 n, .pointer p] MT) (.cells #[.int .u64 0, .int .i64 0, .int .i64 0, .pointer none] MT))
  have hsz : ((w.alloc (.cells #[.int .u64 y, .int .i64 b, .int .i64 n, .pointer p] MT)).alloc (.cells #[.int .u64 0, .int .i64 0, .int .i64 0, .pointer none] MT)).heap.size = w.heap.size + 1 + 1 := by simp
  have HSZ := Lib.hid hsz
  have hNI : (N : Int) ≤ 1000 := by omega
  clear hT hD hk hy hb hM hB0 hsz hN
  go_enter Tryd.func58, Tryd.ntmps58
  go_wp2_with fail
  generalize (w.alloc (.cells #[.int .u64 y, .int .i64 b, .int .i64 n, .pointer p] MT)).alloc (.cells #[.int .u64 0, .int .i64 0, .int .i64 0, .pointer none] MT) = V0 at *
  go_loopg [9] N (fun k v9 wr => Aside (ApI c y b w V0 L D N k v9 wr ()))
  case atStart =>
    show ApI _ _ _ _ _ _ _ _ _ _ _ _
    exact ⟨0, _, _, rfl, by omega, by simp [appL], HO0.out⟩
  case round =>
    obtain ⟨i, n, p, rfl, hik, hln, hO⟩ := hrel.out
    clear hrel HO0
    by_cases hlt : i < N
    · have hltI : (i : Int) < (N : Int) := by omega
      obtain ⟨gk, rfl⟩ : ∃ g, gk = g + 1 := ⟨gk - 1, by omega⟩
      obtain ⟨d, hd⟩ : ∃ d, D[i]? = some d := ⟨_, List.getElem?_eq_getElem (by rw [← HN.out]; exact hlt)⟩
      have hta : appL L (D.take (i + 1)) = app1 (appL L (D.take i)) d := by
        rw [List.take_add_one, hd]; simp [appL, List.foldl_append]
      obtain ⟨ad, rfl, x0, x1, x2, x3, x4⟩ := HD.out.at i d hd
      have x0 := cell_below x0 hO.2.2.2.1
      have x1 := cell_below x1 hO.2.2.2.1
      have x2 := cell_below x2 hO.2.2.2.1
      have x3 := cell_below x3 hO.2.2.2.1
      have x4 := cell_below x4 hO.2.2.2.1
      have hdk := HK.out d (List.mem_of_getElem? hd)
      have hl1 : (app1 (appL L (D.take i)) d).length ≤ L.length + (i + 1) := Nat.le_trans (app1_len hO.srt.1 d) (by omega)
      rw [← hta] at hl1
      have HL1 := Lib.hid hl1; have HTA := Lib.hid hta
      have hll : (appL L (D.take i)).length ≤ 1000 := by have := HN.out; omega
      clear hta hl1
      obtain ⟨k, had, has, was, is⟩ := d
      dsimp only at x0 x1 x2 x3 x4 hdk HTA
      have hbl := (Below.refl wr.heap.size wr).alloc (Nat.le_refl _) (.cells #[.string k, .bool had, .bool has, .int .i64 was, .int .i64 is] CHT)
      have HOV := Lib.hid (hO.below hbl)
      have hbx := blk_new wr (.cells #[.string k, .bool had, .bool has, .int .i64 was, .int .i64 is] CHT)
      have HTV := Lib.hid (HT.out.below HOV.out.2.2.2.1)
      have HST := Lib.hid (sets_mv HY.out HBE.out HOV.out.2.2.1 hll k is hdk)
      have HCT := Lib.hid (cuts_mv HY.out HBE.out HOV.out.2.2.1 hll k hdk HTV.out)
      obtain ⟨⟨q0, q1, q2, q3⟩, -⟩ := box4 HOV.out.1
      have z0 : (wr.alloc (.cells #[.string k, .bool had, .bool has, .int .i64 was, .int .i64 is] CHT)).cell? ⟨wr.heap.size, 0, none⟩ = some (.string k) := blk_cell hbx 0
      have z2 : (wr.alloc (.cells #[.string k, .bool had, .bool has, .int .i64 was, .int .i64 is] CHT)).cell? ⟨wr.heap.size, 2, none⟩ = some (.bool has) := blk_cell hbx 2
      have z4 : (wr.alloc (.cells #[.string k, .bool had, .bool has, .int .i64 was, .int .i64 is] CHT)).cell? ⟨wr.heap.size, 4, none⟩ = some (.int .i64 is) := blk_cell hbx 4
      clear hO hd hbl hbx hll
      cases has with
      | true =>
        go_wp2_with (first
          | (go_at_call 25; ((with_reducible refine (HST.out).mono ?_); rintro e w1 ⟨v, rfl, ⟨n', p', rfl, hm⟩, hb1⟩; have HP := Lib.hid (one_put HOV.out (Nat.le_refl _) (by have := HSZ.out; omega) hb1 hm); obtain ⟨⟨e0, e1, e2, e3⟩, f0, f1, f2, f3⟩ := box4 (blk_below HOV.out.1 hb1); clear hm hb1))
          | fail)
        go_roundg gk
        case measure => omega
        case rel =>
          show ApI _ _ _ _ _ _ _ _ _ _ _ _
          exact ⟨i + 1, _, _, by first | rfl | (push_cast; rfl), by omega, HL1.out, by rw [HTA.out]; exact HP.out⟩
      | false =>
        go_wp2_with (first
          | (go_at_call 28; ((with_reducible refine (HCT.out).mono ?_); rintro e w1 ⟨v, rfl, ⟨n', p', rfl, hm⟩, hb1⟩; have HP := Lib.hid (one_put HOV.out (Nat.le_refl _) (by have := HSZ.out; omega) hb1 hm); obtain ⟨⟨e0, e1, e2, e3⟩, f0, f1, f2, f3⟩ := box4 (blk_below HOV.out.1 hb1); clear hm hb1))
          | fail)
        go_roundg gk
        case measure => omega
        case rel =>
          show ApI _ _ _ _ _ _ _ _ _ _ _ _
          exact ⟨i + 1, _, _, by first | rfl | (push_cast; rfl), by omega, HL1.out, by rw [HTA.out]; exact HP.out⟩
    · have htk : D.take i = D := List.take_of_length_le (by have := HN.out; omega)
      rw [htk] at hO
      have HE := Lib.hid (one_end hO (r := w.heap.size + 1) (by omega) (by have := HSZ.out; omega) HR.out (by omega))
      obtain ⟨⟨q0, q1, q2, q3⟩, -⟩ := box4 hO.1
      obtain ⟨⟨e0, e1, e2, e3⟩, f0, f1, f2, f3⟩ := box4 HE.out.1
      clear hO htk hln
      go_wp2_with fail
      refine bodyPost_ret (results_c1 rfl _ _ (w.heap.size + 1) MT #[.int .u64 y, .int .i64 b, .int .i64 n, .pointer p] (0, 0) _ rfl HE.out.2.1 Tryd.underlying30 rfl (by kernel_rfl)) rfl ?_
      exact ⟨_, rfl, ⟨_, _, rfl, HE.out.2.2.1⟩, HE.out.2.2.2⟩

def AlI (w : World) (m0 m1 m2 m3 n0 n1 n2 n3 : Value) (N k : Nat) (v19 : Value) (wr : World) (_u : Unit) : Prop :=
  ∃ i : Nat, v19 = .int .i64 (i : Int) ∧ i + k = N ∧ wr.heap[w.heap.size]? = some (.cells #[m0, m1, m2, m3] MT (0, 0)) ∧ wr.heap[w.heap.size + 1]? = some (.cells #[n0, n1, n2, n3] MT (0, 0)) ∧ Below w.heap.size w wr

set_option maxRecDepth 100000 in
set_option maxHeartbeats 8000000 in
/-- TWO MAPS OF THE SAME THINGS ARE ALIKE. -/
theorem alike_c (c d : Cf) (K K' : Nat → Prop) (u v : Value) (L : List Pr) (w : World) (hM : MapV c K w u L) (hM' : MapV d K' w v L) (hl : L.length ≤ 1000) (hT : Tab w) :
    Calls Tryd.prog 63 #[u, v] w (Ret (fun r _ => r = .bool true) w) := by
  obtain ⟨y, b, n, p, rfl, hn, hS, hSm⟩ := mform hM
  obtain ⟨y', b', n', p', rfl, hn', -, -⟩ := mform hM'
  obtain ⟨N, hN⟩ : ∃ N, N = L.length := ⟨_, rfl⟩
  have HL1 := Lib.hid fun V (hw : Below w.heap.size w V) => mlen_c c K _ L V (hM.below hw)
  have HL2 := Lib.hid fun V (hw : Below w.heap.size w V) => mlen_c d K' _ L V (hM'.below hw)
  rw [← hN] at HL1 HL2
  have HKY := Lib.hid fun V (hw : Below w.heap.size w V) => keys_c c K _ L V (hM.below hw) hl (hT.below hw)
  have HG1 := Lib.hid fun (j : Nat) (e : Pr) (he : L[j]? = some e) V (hw : Below w.heap.size w V) => (show Calls Tryd.prog 27 #[.agg #[.int .u64 y, .int .i64 b, .int .i64 n, .pointer p], .string e.1] V (Ret (fun v _ => v = .tuple #[.int .i64 e.2, .bool true]) V) from got_at' hS he ▸ mget_c c K _ L e.1 (hSm e (List.mem_of_getElem? he)) V (hM.below hw) (by omega))
  have HG2 := Lib.hid fun (j : Nat) (e : Pr) (he : L[j]? = some e) V (hw : Below w.heap.size w V) => (show Calls Tryd.prog 27 #[.agg #[.int .u64 y', .int .i64 b', .int .i64 n', .pointer p'], .string e.1] V (Ret (fun v _ => v = .tuple #[.int .i64 e.2, .bool true]) V) from got_at' hS he ▸ mget_c d K' _ L e.1 (hSm e (List.mem_of_getElem? he)) V (hM'.below hw) (by omega))
  have HN := Lib.hid hN
  have hNI : (N : Int) ≤ 1000 := by omega
  have hB0 := ((Below.refl w.heap.size w).alloc (Nat.le_refl _) (.cells #[.int .u64 y, .int .i64 b, .int .i64 n, .pointer p] MT)).alloc (by simp) (.cells #[.int .u64 y', .int .i64 b', .int .i64 n', .pointer p'] MT)
  have HB0 := Lib.hid hB0
  have HX1 := Lib.hid (blk_alloc (blk_new w (.cells #[.int .u64 y, .int .i64 b, .int .i64 n, .pointer p] MT)) (.cells #[.int .u64 y', .int .i64 b', .int .i64 n', .pointer p'] MT)); have HX2 := Lib.hid (heap_k1 w (.cells #[.int .u64 y, .int .i64 b, .int .i64 n, .pointer p] MT) (.cells #[.int .u64 y', .int .i64 b', .int .i64 n', .pointer p'] MT))
  clear hM hM' hl hT hS hSm hn hn' hN hB0
  go_enter Tryd.func63, Tryd.ntmps63
  go_upto_region 1 with fail
  generalize (w.alloc (.cells #[.int .u64 y, .int .i64 b, .int .i64 n, .pointer p] MT)).alloc (.cells #[.int .u64 y', .int .i64 b', .int .i64 n', .pointer p'] MT) = V0 at *
  obtain ⟨⟨a0, a1, a2, a3⟩, -⟩ := box4 HX1.out
  obtain ⟨⟨c0, c1, c2, c3⟩, -⟩ := box4 HX2.out
  have hg : w.heap.size ≤ V0.heap.size := HB0.out.size
  go_region_held3 (fun w' => (w'.cell? ⟨w.heap.size, 0, none⟩ = some (.int .u64 y) ∧ w'.cell? ⟨w.heap.size, 1, none⟩ = some (.int .i64 b) ∧ w'.cell? ⟨w.heap.size, 2, none⟩ = some (.int .i64 n) ∧ w'.cell? ⟨w.heap.size, 3, none⟩ = some (.pointer p)) ∧ w'.cell? ⟨w.heap.size + 1, 0, none⟩ = some (.int .u64 y') ∧ w'.cell? ⟨w.heap.size + 1, 1, none⟩ = some (.int .i64 b') ∧ w'.cell? ⟨w.heap.size + 1, 2, none⟩ = some (.int .i64 n') ∧ w'.cell? ⟨w.heap.size + 1, 3, none⟩ = some (.pointer p'))
    ((refine ⟨⟨?_, ?_, ?_, ?_⟩, ?_, ?_, ?_, ?_⟩ <;> first | (with_reducible assumption) | (with_reducible exact cell_below a0 (by assumption)) | (with_reducible exact cell_below a1 (by assumption)) | (with_reducible exact cell_below a2 (by assumption)) | (with_reducible exact cell_below a3 (by assumption)) | (with_reducible exact cell_below c0 (by assumption)) | (with_reducible exact cell_below c1 (by assumption)) | (with_reducible exact cell_below c2 (by assumption)) | (with_reducible exact cell_below c3 (by assumption)) | (go_keep; done)))
    (first
      | (go_at_call 29; (with_reducible refine (HL1.out _ (HB0.out.drew)).mono ?_); rintro e w5 ⟨v, rfl, rfl, hb5⟩; have hb5 := below_trans (w1 := World.drew _) (Below.refl _ _).drew hb5)
      | (go_at_call 29; (with_reducible refine (HL2.out _ (below_trans HB0.out hb5)).mono ?_); rintro e w6 ⟨v, rfl, rfl, hb6⟩; have hb6 := below_trans hb5 hb6)
      | fail)
  have H6 := Lib.hid (below_trans HB0.out hb6)
  have HM1 := Lib.hid (blk_below HX1.out hb6); have HM2 := Lib.hid (blk_below HX2.out hb6)
  clear hb5 hb6 a0 a1 a2 a3 c0 c1 c2 c3
  obtain ⟨⟨a0, a1, a2, a3⟩, -⟩ := box4 HM1.out
  go_wp2_with (first
    | (go_at_call 26; ((with_reducible refine (HKY.out _ H6.out).mono ?_); rintro e w7 ⟨v, rfl, hs, hb⟩; obtain ⟨Ak, ck, he⟩ := SlV.form' hs; rw [ksV_length, ← HN.out] at he; subst he; have HS := Lib.hid hs; have H7 := Lib.hid (below_trans H6.out hb); have HM3 := Lib.hid (blk_below HM1.out hb); have HM4 := Lib.hid (blk_below HM2.out hb); clear hs hb))
    | fail)
  clear a0 a1 a2 a3
  go_loopg [19] N (fun k v19 wr => Aside (AlI w (.int .u64 y) (.int .i64 b) (.int .i64 n) (.pointer p) (.int .u64 y') (.int .i64 b') (.int .i64 n') (.pointer p') N k v19 wr () ∧ Below w7.heap.size w7 wr))
  case atStart =>
    show AlI _ _ _ _ _ _ _ _ _ _ _ _ _ _ ∧ _
    exact ⟨⟨0, rfl, by omega, HM3.out, HM4.out, H7.out⟩, Below.refl _ _⟩
  case round =>
    obtain ⟨⟨j, rfl, hj, BM, BR, hB⟩, hB7⟩ := hrel.out
    clear hrel
    by_cases hlt : j < N
    · have hltI : (j : Int) < (N : Int) := by omega
      obtain ⟨gk, rfl⟩ : ∃ g, gk = g + 1 := ⟨gk - 1, by omega⟩
      obtain ⟨e, he⟩ : ∃ e, L[j]? = some e := ⟨_, List.getElem?_eq_getElem (by rw [← HN.out]; exact hlt)⟩
      obtain ⟨ad, rfl, hk⟩ := HS.out.addr (by rw [ksV_length, ← HN.out]; omega)
      have hk := cell_below (hk j (.string e.1) (by simp [ksV, he])) hB7
      have HGA := Lib.hid (HG1.out j e he)
      have HGB := Lib.hid (HG2.out j e he)
      obtain ⟨ek, ex⟩ := e
      dsimp only at hk HGA HGB
      obtain ⟨⟨a0, a1, a2, a3⟩, -⟩ := box4 BM
      have HBM := Lib.hid BM; have HBR := Lib.hid BR; have HBB := Lib.hid hB; have HB7 := Lib.hid hB7
      clear BM BR hB hB7 he
      go_wp2_with (first
        | (go_at_call 27; ((with_reducible refine (HGA.out _ HBB.out).mono ?_); rintro e w8 ⟨v, rfl, rfl, hb8⟩; obtain ⟨⟨c0, c1, c2, c3⟩, -⟩ := box4 (blk_below HBR.out hb8); have HB8 := Lib.hid hb8; clear hb8))
        | (go_at_call 27; ((with_reducible refine (HGB.out _ (below_trans HBB.out HB8.out)).mono ?_); rintro e w9 ⟨v, rfl, rfl, hb9⟩; have HB9 := Lib.hid (below_trans HB8.out hb9); clear hb9))
        | fail)
      go_roundg gk
      case measure => omega
      case rel =>
        show AlI _ _ _ _ _ _ _ _ _ _ _ _ _ _ ∧ _
        exact ⟨⟨j + 1, by first | rfl | (push_cast; rfl), by omega, blk_below HBM.out HB9.out, blk_below HBR.out HB9.out, below_trans HBB.out HB9.out⟩, below_trans HB7.out HB9.out⟩
    · have HB := Lib.hid hB
      clear BM BR hB hB7
      go_wp2_with fail
      go_returns
      exact ⟨_, rfl, rfl, HB.out⟩
end Go.Proofs.YtnegblckbomgdaaDoor.Ht
