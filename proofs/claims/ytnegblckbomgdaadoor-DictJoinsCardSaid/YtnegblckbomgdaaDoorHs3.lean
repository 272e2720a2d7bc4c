/- Laws of the maps' code and of the words it uses, gathered out of the printed and own texts; no conditions. -/
import Derived.Test.YtnegblckbomgdaaDoorHs2
import Derived.RangeFuncNested
import Derived.RangeFuncBound
import Derived.RangeFuncCalls
import Derived.RangeFuncLeaves
import Derived.Shelf.Abstract
import Derived.Shelf.RegionOpen
import Derived.WalkKit
import Derived.OwnWalkIn
import Derived.TacticsInMore
import Derived.LoopNIn
import Derived.LoopIn
import Derived.Maps.AppendAt
import Derived.RangeFuncWrites
import Derived.RangeFuncBox
set_option linter.unusedVariables false
set_option linter.unusedSimpArgs false
section
namespace Go.Proofs.YtnegblckbomgdaaDoor.Ht
open Go Go.RowKit Go.Proofs.YtnegblckbomgdaaDoor.Mem Go.Proofs.YtnegblckbomgdaaDoor.PA Go.Proofs.YtnegblckbomgdaaDoorW.PrintWords Go.Proofs.YtnegblckbomgdaaDoor.U64
attribute [local go_sem ↓] Go.wp_at_zero Go.wp_at_succ
abbrev mpv (y bits : Int) (n : Nat) (p : Option Addr) : Value := .agg #[.int .u64 y, .int .i64 bits, .int .i64 (n : Int), .pointer p]
def NodeR (K : Nat → Prop) (w : World) (cc : Nat → Option (List Value)) (i : Nat) (X : Option Addr → List Value) (Good : World → Option Addr → Prop) (fr : Bool) (v : Value) (w' : World) : Prop :=
  ∃ (g' : Nat) (A' : Option Addr) (n' cp' b' : Nat) (q : Option Addr), v = .tuple #[.pointer (some ⟨g', 0, none⟩), .bool fr] ∧ w.heap.size ≤ g' ∧ w'.heap[g']? = some (.cells #[.int .u32 (b' : Int), .slice A' n' cp', .slice none 0 0] NT (0, 0)) ∧
    b' = bitsN (has (put cc i (some (X q)))) 32 ∧ RowS (New K w) w' (.slice A' n' cp') (put cc i (some (X q))) ∧ Good w' q
abbrev XP (k : ByteArray) (x : Int) : Option Addr → List Value := fun _ => [.string k, .int .i64 x, .pointer none]
abbrev XN : Option Addr → List Value := fun q => [.string ⟨#[]⟩, .int .i64 0, .pointer q]
set_option maxRecDepth 100000 in
set_option maxHeartbeats 8000000 in
theorem pput_none (K : Nat → Prop) (n : Nat) (p : Option Addr) (y bits zz : Int) (l i b : Nat) (g nn cp : Nat) (A : Option Addr) (cc : Nat → Option (List Value)) (k : ByteArray) (x : Int) (w : World) (hl : l ≤ 12) (hi : i < 32)
    (hg : w.heap[g]? = some (.cells #[.int .u32 (b : Int), .slice A nn cp, .slice none 0 0] NT (0, 0))) (hbb : b = bitsN (has cc) 32) (hrow : RowS K w (.slice A nn cp) cc)
    (HS : ∀ V, Calls Tryd.prog 33 #[mpv y bits n p, .string k] V (Ret (fun v _ => v = .int .u64 zz) V)) (HC : ∀ V, Calls Tryd.prog 78 #[.int .u64 zz, .int .i64 (l : Int)] V (Ret (fun v _ => v = .int .i64 (i : Int)) V))
    (HG : GetsV g b (.slice A nn cp) i w (slv ⟨#[]⟩ 0 none false)) :
    Calls Tryd.prog 75 #[mpv y bits n p, .pointer (some ⟨g, 0, none⟩), .int .i64 (l : Int), .agg #[.string k, .int .i64 x]] w (Ret (fun v w' => NodeR K w cc i (XP k x) (fun _ _ => True) true v w') w) := by
  have HRS := Lib.hid (fun V (hw : Below w.heap.size w V) => rset_c K cc b i hbb hi (.slice A nn cp) k x none V (hrow.below hw))
  obtain ⟨⟨k0, k1, -⟩, -⟩ := box3 hg
  have hglt := blk_lt hg
  have P0 := blk_alloc (blk_new w (.cells #[.int .u64 y, .int .i64 bits, .int .i64 (n : Int), .pointer p] MT)) (.cells #[.string k, .int .i64 x] PT)
  have P1 := heap_k1 w (.cells #[.int .u64 y, .int .i64 bits, .int .i64 (n : Int), .pointer p] MT) (.cells #[.string k, .int .i64 x] PT)
  have hB0 : Below w.heap.size w ((w.alloc (.cells #[.int .u64 y, .int .i64 bits, .int .i64 (n : Int), .pointer p] MT)).alloc (.cells #[.string k, .int .i64 x] PT)) := ((Below.refl w.heap.size w).alloc (Nat.le_refl _) _).alloc (by simp) _
  have hW1s : w.heap.size + 1 < ((w.alloc (.cells #[.int .u64 y, .int .i64 bits, .int .i64 (n : Int), .pointer p] MT)).alloc (.cells #[.string k, .int .i64 x] PT)).heap.size := by simp
  have hlI : (l : Int) < 13 := by omega
  have hl13 : ((l : Int) == 13) = false := beq_false_of_ne (by omega)
  have hws : IntKind.i64.wrap ((l : Int) + 1) = (l : Int) + 1 := by rw [IntKind.wrap_i64]; omega
  have HR := Lib.hid hrow; have HBB := Lib.hid hbb
  have HSS := Lib.hid HS; have HCC := Lib.hid HC; have HGG := Lib.hid (fun V (hw : Below w.heap.size w V) => HG V hw)
  clear hg hrow hbb HS HC HG
  go_enter Tryd.func75, Tryd.ntmps75
  go_wp2_with fail
  generalize (w.alloc (.cells #[.int .u64 y, .int .i64 bits, .int .i64 (n : Int), .pointer p] MT)).alloc (.cells #[.string k, .int .i64 x] PT) = W1 at P0 P1 hB0 hW1s ⊢
  have k01 := cell_below k0 hB0
  have k11 := cell_below k1 hB0
  obtain ⟨⟨m0, m1, m2, m3⟩, -⟩ := box4 P0
  obtain ⟨⟨p0, p1⟩, -, -⟩ := box2 P1
  have HB0 := Lib.hid hB0
  have hs0 := hB0.size
  clear P0 P1 hB0 k0 k1
  go_wp2_with (first
      | (go_at_call 33; ((with_reducible refine (HSS.out _).mono ?_); rintro e w2 ⟨v, rfl, rfl, hb2⟩; have hB2 : Below W1.heap.size W1 w2 := below_trans (by first | exact Below.refl _ _ | exact (Below.refl _ _).drew) hb2))
      | (go_at_call 78; ((with_reducible refine (HCC.out _).mono ?_); rintro e w3 ⟨v, rfl, rfl, hb3⟩; have hB3 : Below W1.heap.size W1 w3 := below_trans hB2 hb3; have k03 := cell_below k01 hB3; have k13 := cell_below k11 hB3))
      | (go_at_call 77; ((with_reducible refine (HGG.out _ (below_trans HB0.out hB3)).mono ?_); rintro e w4 ⟨v, rfl, rfl, hb4⟩; have hB4 : Below W1.heap.size W1 w4 := below_trans hB3 hb4; have k04 := cell_below k01 hB4; have k14 := cell_below k11 hB4; have p04 := cell_below p0 hB4; have p14 := cell_below p1 hB4; have m04 := cell_below m0 hB4; have m14 := cell_below m1 hB4; have m24 := cell_below m2 hB4; have m34 := cell_below m3 hB4; have hal := (fun o => (Below.refl w4.heap.size w4).alloc (Nat.le_refl _) o); have k05 := (fun o => cell_below k04 (hal o)); have k15 := (fun o => cell_below k14 (hal o)); have p05 := (fun o => cell_below p04 (hal o)); have p15 := (fun o => cell_below p14 (hal o)); have m05 := (fun o => cell_below m04 (hal o)); have m15 := (fun o => cell_below m14 (hal o)); have m25 := (fun o => cell_below m24 (hal o)); have m35 := (fun o => cell_below m34 (hal o)); have hs4 := hB4.size; have n41 : w4.heap.size ≠ g := (by omega); have n42 : w4.heap.size ≠ w.heap.size := (by omega); have n43 : w4.heap.size ≠ w.heap.size + 1 := (by omega)))
      | fail)
  have Z4 := blk_new w4 (.cells #[.string k, .int .i64 x, .pointer none] ST)
  have HB6 := Lib.hid (below_trans HB0.out (hB4.alloc hB4.size (.cells #[.string k, .int .i64 x, .pointer none] ST)))
  have k06 := cell_below k04 ((Below.refl w4.heap.size w4).alloc (Nat.le_refl _) (.cells #[.string k, .int .i64 x, .pointer none] ST))
  have k16 := cell_below k14 ((Below.refl w4.heap.size w4).alloc (Nat.le_refl _) (.cells #[.string k, .int .i64 x, .pointer none] ST))
  generalize w4.alloc (.cells #[.string k, .int .i64 x, .pointer none] ST) = W6 at Z4 HB6 k06 k16 ⊢
  obtain ⟨⟨z0, z1, z2⟩, -⟩ := box3 Z4
  clear Z4 hB2 hB3 hB4 hb2 hb3 hb4 k03 k13 k05 k15 p05 p15 m05 m15 m25 m35 hal k04 k14 p04 p14 m04 m14 m24 m34 k01 k11 m0 m1 m2 m3 p0 p1
  first
  | (go_region_with (first
      | (go_at_call 101; (with_reducible refine (HRS.out _ HB6.out.drew).mono ?_); rintro e w7 ⟨v, rfl, ⟨A7, n7, cp7, b7, rfl, hb7', hR7⟩, hb7⟩; have HB7 := Lib.hid (below_trans (w1 := W6.drew) (Below.refl W6.heap.size W6).drew hb7); have HR7 := Lib.hid hR7; have HE7 := Lib.hid hb7'; clear hR7 hb7' hb7)))
  | fail
  all_goals go_wp2_with fail
  all_goals
    go_returns
    have h6s := HB6.out.size
    have h67 := below_trans HB6.out HB7.out
    refine ⟨_, rfl, ⟨w7.heap.size, A7, n7, cp7, b7, none, rfl, h67.size, blk_new w7 _, HE7.out, ?_, trivial⟩, h67.alloc h67.size _⟩
    refine (HR7.out.below ((Below.refl _ _).alloc (Nat.le_refl _) _)).keep (fun t ht _ => ?_) (fun _ _ _ => rfl)
    exact ht.imp id fun h => Nat.le_trans h6s h
set_option maxRecDepth 100000 in
set_option maxHeartbeats 8000000 in
theorem pput_same (K : Nat → Prop) (n : Nat) (p : Option Addr) (y bits zz : Int) (l i b : Nat) (g nn cp : Nat) (A : Option Addr) (cc : Nat → Option (List Value)) (k : ByteArray) (x x0 : Int) (w : World) (hl : l ≤ 12) (hi : i < 32)
    (hg : w.heap[g]? = some (.cells #[.int .u32 (b : Int), .slice A nn cp, .slice none 0 0] NT (0, 0))) (hbb : b = bitsN (has cc) 32) (hrow : RowS K w (.slice A nn cp) cc)
    (HS : ∀ V, Calls Tryd.prog 33 #[mpv y bits n p, .string k] V (Ret (fun v _ => v = .int .u64 zz) V)) (HC : ∀ V, Calls Tryd.prog 78 #[.int .u64 zz, .int .i64 (l : Int)] V (Ret (fun v _ => v = .int .i64 (i : Int)) V))
    (HG : GetsV g b (.slice A nn cp) i w (slv k x0 none true)) :
    Calls Tryd.prog 75 #[mpv y bits n p, .pointer (some ⟨g, 0, none⟩), .int .i64 (l : Int), .agg #[.string k, .int .i64 x]] w (Ret (fun v w' => NodeR K w cc i (XP k x) (fun _ _ => True) false v w') w) := by
  have HRS := Lib.hid (fun V (hw : Below w.heap.size w V) => rset_c K cc b i hbb hi (.slice A nn cp) k x none V (hrow.below hw))
  obtain ⟨⟨k0, k1, -⟩, -⟩ := box3 hg
  have hglt := blk_lt hg
  have P0 := blk_alloc (blk_new w (.cells #[.int .u64 y, .int .i64 bits, .int .i64 (n : Int), .pointer p] MT)) (.cells #[.string k, .int .i64 x] PT)
  have P1 := heap_k1 w (.cells #[.int .u64 y, .int .i64 bits, .int .i64 (n : Int), .pointer p] MT) (.cells #[.string k, .int .i64 x] PT)
  have hB0 : Below w.heap.size w ((w.alloc (.cells #[.int .u64 y, .int .i64 bits, .int .i64 (n : Int), .pointer p] MT)).alloc (.cells #[.string k, .int .i64 x] PT)) := ((Below.refl w.heap.size w).alloc (Nat.le_refl _) _).alloc (by simp) _
  have hW1s : w.heap.size + 1 < ((w.alloc (.cells #[.int .u64 y, .int .i64 bits, .int .i64 (n : Int), .pointer p] MT)).alloc (.cells #[.string k, .int .i64 x] PT)).heap.size := by simp
  have hlI : (l : Int) < 13 := by omega
  have hl13 : ((l : Int) == 13) = false := beq_false_of_ne (by omega)
  have hws : IntKind.i64.wrap ((l : Int) + 1) = (l : Int) + 1 := by rw [IntKind.wrap_i64]; omega
  have HR := Lib.hid hrow; have HBB := Lib.hid hbb
  have HSS := Lib.hid HS; have HCC := Lib.hid HC; have HGG := Lib.hid (fun V (hw : Below w.heap.size w V) => HG V hw)
  clear hg hrow hbb HS HC HG
  go_enter Tryd.func75, Tryd.ntmps75
  go_wp2_with fail
  generalize (w.alloc (.cells #[.int .u64 y, .int .i64 bits, .int .i64 (n : Int), .pointer p] MT)).alloc (.cells #[.string k, .int .i64 x] PT) = W1 at P0 P1 hB0 hW1s ⊢
  have k01 := cell_below k0 hB0
  have k11 := cell_below k1 hB0
  obtain ⟨⟨m0, m1, m2, m3⟩, -⟩ := box4 P0
  obtain ⟨⟨p0, p1⟩, -, -⟩ := box2 P1
  have HB0 := Lib.hid hB0
  have hs0 := hB0.size
  clear P0 P1 hB0 k0 k1
  go_wp2_with (first
      | (go_at_call 33; ((with_reducible refine (HSS.out _).mono ?_); rintro e w2 ⟨v, rfl, rfl, hb2⟩; have hB2 : Below W1.heap.size W1 w2 := below_trans (by first | exact Below.refl _ _ | exact (Below.refl _ _).drew) hb2))
      | (go_at_call 78; ((with_reducible refine (HCC.out _).mono ?_); rintro e w3 ⟨v, rfl, rfl, hb3⟩; have hB3 : Below W1.heap.size W1 w3 := below_trans hB2 hb3; have k03 := cell_below k01 hB3; have k13 := cell_below k11 hB3))
      | (go_at_call 77; ((with_reducible refine (HGG.out _ (below_trans HB0.out hB3)).mono ?_); rintro e w4 ⟨v, rfl, rfl, hb4⟩; have hB4 : Below W1.heap.size W1 w4 := below_trans hB3 hb4; have k04 := cell_below k01 hB4; have k14 := cell_below k11 hB4; have p04 := cell_below p0 hB4; have p14 := cell_below p1 hB4; have m04 := cell_below m0 hB4; have m14 := cell_below m1 hB4; have m24 := cell_below m2 hB4; have m34 := cell_below m3 hB4; have hal := (fun o => (Below.refl w4.heap.size w4).alloc (Nat.le_refl _) o); have k05 := (fun o => cell_below k04 (hal o)); have k15 := (fun o => cell_below k14 (hal o)); have p05 := (fun o => cell_below p04 (hal o)); have p15 := (fun o => cell_below p14 (hal o)); have m05 := (fun o => cell_below m04 (hal o)); have m15 := (fun o => cell_below m14 (hal o)); have m25 := (fun o => cell_below m24 (hal o)); have m35 := (fun o => cell_below m34 (hal o)); have hs4 := hB4.size; have n41 : w4.heap.size ≠ g := (by omega); have n42 : w4.heap.size ≠ w.heap.size := (by omega); have n43 : w4.heap.size ≠ w.heap.size + 1 := (by omega)))
      | fail)
  have Z4 := blk_new w4 (.cells #[.string k, .int .i64 x, .pointer none] ST)
  have HB6 := Lib.hid (below_trans HB0.out (hB4.alloc hB4.size (.cells #[.string k, .int .i64 x, .pointer none] ST)))
  have k06 := cell_below k04 ((Below.refl w4.heap.size w4).alloc (Nat.le_refl _) (.cells #[.string k, .int .i64 x, .pointer none] ST))
  have k16 := cell_below k14 ((Below.refl w4.heap.size w4).alloc (Nat.le_refl _) (.cells #[.string k, .int .i64 x, .pointer none] ST))
  generalize w4.alloc (.cells #[.string k, .int .i64 x, .pointer none] ST) = W6 at Z4 HB6 k06 k16 ⊢
  obtain ⟨⟨z0, z1, z2⟩, -⟩ := box3 Z4
  clear Z4 hB2 hB3 hB4 hb2 hb3 hb4 k03 k13 k05 k15 p05 p15 m05 m15 m25 m35 hal k04 k14 p04 p14 m04 m14 m24 m34 k01 k11 m0 m1 m2 m3 p0 p1
  first
  | (go_region_with (first
      | (go_at_call 101; (with_reducible refine (HRS.out _ HB6.out.drew).mono ?_); rintro e w7 ⟨v, rfl, ⟨A7, n7, cp7, b7, rfl, hb7', hR7⟩, hb7⟩; have HB7 := Lib.hid (below_trans (w1 := W6.drew) (Below.refl W6.heap.size W6).drew hb7); have HR7 := Lib.hid hR7; have HE7 := Lib.hid hb7'; clear hR7 hb7' hb7)))
  | fail
  all_goals go_wp2_with fail
  all_goals
    go_returns
    have h6s := HB6.out.size
    have h67 := below_trans HB6.out HB7.out
    refine ⟨_, rfl, ⟨w7.heap.size, A7, n7, cp7, b7, none, rfl, h67.size, blk_new w7 _, HE7.out, ?_, trivial⟩, h67.alloc h67.size _⟩
    refine (HR7.out.below ((Below.refl _ _).alloc (Nat.le_refl _) _)).keep (fun t ht _ => ?_) (fun _ _ _ => rfl)
    exact ht.imp id fun h => Nat.le_trans h6s h
set_option maxRecDepth 100000 in
set_option maxHeartbeats 8000000 in
theorem pput_fork (K : Nat → Prop) (n : Nat) (p : Option Addr) (y bits zz : Int) (l i b : Nat) (g nn cp : Nat) (A : Option Addr) (cc : Nat → Option (List Value)) (k k0 : ByteArray) (x x0 : Int) (w : World) (hl : l ≤ 12) (hi : i < 32)
    (hg : w.heap[g]? = some (.cells #[.int .u32 (b : Int), .slice A nn cp, .slice none 0 0] NT (0, 0))) (hbb : b = bitsN (has cc) 32) (hrow : RowS K w (.slice A nn cp) cc)
    (HS : ∀ V, Calls Tryd.prog 33 #[mpv y bits n p, .string k] V (Ret (fun v _ => v = .int .u64 zz) V)) (HC : ∀ V, Calls Tryd.prog 78 #[.int .u64 zz, .int .i64 (l : Int)] V (Ret (fun v _ => v = .int .i64 (i : Int)) V))
    (c : Cf) (d : Nat) (M' : List Pr) (hne : (k0.toList == k.toList) = false)
    (HF : ∀ V, Calls Tryd.prog 100 #[mpv y bits n p, .int .i64 ((l : Int) + 1), .agg #[.string k0, .int .i64 x0], .agg #[.string k, .int .i64 x]] V (Ret (fun v w' => ∃ q, v = .pointer q ∧ HRep c (Fresh V) w' d q M') V))
    (HG : GetsV g b (.slice A nn cp) i w (slv k0 x0 none true)) :
    Calls Tryd.prog 75 #[mpv y bits n p, .pointer (some ⟨g, 0, none⟩), .int .i64 (l : Int), .agg #[.string k, .int .i64 x]] w (Ret (fun v w' => NodeR K w cc i XN (fun w' q => HRep c (New K w) w' d q M') true v w') w) := by
  have HRS := Lib.hid (fun (q : Option Addr) V (hw : Below w.heap.size w V) => rset_c K cc b i hbb hi (.slice A nn cp) ⟨#[]⟩ 0 q V (hrow.below hw))
  have HFF := Lib.hid HF; clear HF
  obtain ⟨⟨k0, k1, -⟩, -⟩ := box3 hg
  have hglt := blk_lt hg
  have P0 := blk_alloc (blk_new w (.cells #[.int .u64 y, .int .i64 bits, .int .i64 (n : Int), .pointer p] MT)) (.cells #[.string k, .int .i64 x] PT)
  have P1 := heap_k1 w (.cells #[.int .u64 y, .int .i64 bits, .int .i64 (n : Int), .pointer p] MT) (.cells #[.string k, .int .i64 x] PT)
  have hB0 : Below w.heap.size w ((w.alloc (.cells #[.int .u64 y, .int .i64 bits, .int .i64 (n : Int), .pointer p] MT)).alloc (.cells #[.string k, .int .i64 x] PT)) := ((Below.refl w.heap.size w).alloc (Nat.le_refl _) _).alloc (by simp) _
  have hW1s : w.heap.size + 1 < ((w.alloc (.cells #[.int .u64 y, .int .i64 bits, .int .i64 (n : Int), .pointer p] MT)).alloc (.cells #[.string k, .int .i64 x] PT)).heap.size := by simp
  have hlI : (l : Int) < 13 := by omega
  have hl13 : ((l : Int) == 13) = false := beq_false_of_ne (by omega)
  have hws : IntKind.i64.wrap ((l : Int) + 1) = (l : Int) + 1 := by rw [IntKind.wrap_i64]; omega
  have HR := Lib.hid hrow; have HBB := Lib.hid hbb
  have HSS := Lib.hid HS; have HCC := Lib.hid HC; have HGG := Lib.hid (fun V (hw : Below w.heap.size w V) => HG V hw)
  clear hg hrow hbb HS HC HG
  go_enter Tryd.func75, Tryd.ntmps75
  go_wp2_with fail
  generalize (w.alloc (.cells #[.int .u64 y, .int .i64 bits, .int .i64 (n : Int), .pointer p] MT)).alloc (.cells #[.string k, .int .i64 x] PT) = W1 at P0 P1 hB0 hW1s ⊢
  have k01 := cell_below k0 hB0
  have k11 := cell_below k1 hB0
  obtain ⟨⟨m0, m1, m2, m3⟩, -⟩ := box4 P0
  obtain ⟨⟨p0, p1⟩, -, -⟩ := box2 P1
  have HB0 := Lib.hid hB0
  have hs0 := hB0.size
  clear P0 P1 hB0 k0 k1
  go_wp2_with (first
      | (go_at_call 33; ((with_reducible refine (HSS.out _).mono ?_); rintro e w2 ⟨v, rfl, rfl, hb2⟩; have hB2 : Below W1.heap.size W1 w2 := below_trans (by first | exact Below.refl _ _ | exact (Below.refl _ _).drew) hb2))
      | (go_at_call 78; ((with_reducible refine (HCC.out _).mono ?_); rintro e w3 ⟨v, rfl, rfl, hb3⟩; have hB3 : Below W1.heap.size W1 w3 := below_trans hB2 hb3; have k03 := cell_below k01 hB3; have k13 := cell_below k11 hB3))
      | (go_at_call 77; ((with_reducible refine (HGG.out _ (below_trans HB0.out hB3)).mono ?_); rintro e w4 ⟨v, rfl, rfl, hb4⟩; have hB4 : Below W1.heap.size W1 w4 := below_trans hB3 hb4; have k04 := cell_below k01 hB4; have k14 := cell_below k11 hB4; have p04 := cell_below p0 hB4; have p14 := cell_below p1 hB4; have m04 := cell_below m0 hB4; have m14 := cell_below m1 hB4; have m24 := cell_below m2 hB4; have m34 := cell_below m3 hB4; have hal := (fun o => (Below.refl w4.heap.size w4).alloc (Nat.le_refl _) o); have k05 := (fun o => cell_below k04 (hal o)); have k15 := (fun o => cell_below k14 (hal o)); have p05 := (fun o => cell_below p04 (hal o)); have p15 := (fun o => cell_below p14 (hal o)); have m05 := (fun o => cell_below m04 (hal o)); have m15 := (fun o => cell_below m14 (hal o)); have m25 := (fun o => cell_below m24 (hal o)); have m35 := (fun o => cell_below m34 (hal o)); have hs4 := hB4.size; have n41 : w4.heap.size ≠ g := (by omega); have n42 : w4.heap.size ≠ w.heap.size := (by omega); have n43 : w4.heap.size ≠ w.heap.size + 1 := (by omega)))
      | (go_at_call 100; ((with_reducible refine (HFF.out _).mono ?_); rintro e w5 ⟨v, rfl, ⟨q, rfl, hQ⟩, hb5⟩; have B5 := blk_below (blk_new w4 (.cells #[.string k0, .int .i64 x0, .pointer none] ST)) hb5; obtain ⟨⟨z05, z15, z25⟩, fz0, fz1, fz2⟩ := box3 B5; have hb45 : Below w4.heap.size w4 w5 := below_trans (hal (.cells #[.string k0, .int .i64 x0, .pointer none] ST)) hb5; have hKq : ∀ t, Fresh (w4.alloc (.cells #[.string k0, .int .i64 x0, .pointer none] ST)) t → t ≠ w4.heap.size ∧ New K w t := (fun t ht => (by simp only [New, Fresh, World.size_alloc] at ht ⊢; omega))))
      | fail)
  have Z6 : (((w5.setCell ⟨w4.heap.size, 0, none⟩ (.string ⟨#[]⟩)).setCell ⟨w4.heap.size, 1, none⟩ (.int .i64 0)).setCell ⟨w4.heap.size, 2, none⟩ (.pointer q)).heap[w4.heap.size]? = some (.cells #[.string ⟨#[]⟩, .int .i64 0, .pointer q] ST (0, 0)) := put3 B5
  have hB6 : Below w4.heap.size w4 (((w5.setCell ⟨w4.heap.size, 0, none⟩ (.string ⟨#[]⟩)).setCell ⟨w4.heap.size, 1, none⟩ (.int .i64 0)).setCell ⟨w4.heap.size, 2, none⟩ (.pointer q)) := (((hb45.setCell (p := ⟨w4.heap.size, 0, none⟩) (Nat.le_refl w4.heap.size) (.string ⟨#[]⟩)).setCell (p := ⟨w4.heap.size, 1, none⟩) (Nat.le_refl w4.heap.size) (.int .i64 0)).setCell (p := ⟨w4.heap.size, 2, none⟩) (Nat.le_refl w4.heap.size) (.pointer q))
  have k06 := cell_below k04 hB6
  have k16 := cell_below k14 hB6
  have HB6 := Lib.hid (below_trans HB0.out (below_trans hB4 hB6))
  have hQ6 : HRep c (New K w) (((w5.setCell ⟨w4.heap.size, 0, none⟩ (.string ⟨#[]⟩)).setCell ⟨w4.heap.size, 1, none⟩ (.int .i64 0)).setCell ⟨w4.heap.size, 2, none⟩ (.pointer q)) d q M' := hQ.keep (fun t ht _ => (hKq t ht).2) (fun t ht _ => ((heap_setCell_other _ _ _ _ (hKq t ht).1).trans ((heap_setCell_other _ _ _ _ (hKq t ht).1).trans (heap_setCell_other _ _ _ _ (hKq t ht).1))))
  generalize (((w5.setCell ⟨w4.heap.size, 0, none⟩ (.string ⟨#[]⟩)).setCell ⟨w4.heap.size, 1, none⟩ (.int .i64 0)).setCell ⟨w4.heap.size, 2, none⟩ (.pointer q)) = W6 at Z6 HB6 k06 k16 hQ6 ⊢
  obtain ⟨⟨z0, z1, z2⟩, -⟩ := box3 Z6
  have HQ6 := Lib.hid hQ6
  clear Z6 hQ6 hQ hKq hB6 hb45 hb5 B5 hB2 hB3 hB4 hb2 hb3 hb4 k03 k13 k05 k15 p05 p15 m05 m15 m25 m35 hal k04 k14 p04 p14 m04 m14 m24 m34 k01 k11 m0 m1 m2 m3 p0 p1
  first
  | (go_region_with (first
      | (go_at_call 101; (with_reducible refine (HRS.out _ _ HB6.out.drew).mono ?_); rintro e w7 ⟨v, rfl, ⟨A7, n7, cp7, b7, rfl, hb7', hR7⟩, hb7⟩; have HB7 := Lib.hid (below_trans (w1 := W6.drew) (Below.refl W6.heap.size W6).drew hb7); have HR7 := Lib.hid hR7; have HE7 := Lib.hid hb7'; clear hR7 hb7' hb7)))
  | fail
  all_goals go_wp2_with fail
  all_goals
    go_returns
    have h6s := HB6.out.size
    have h67 := below_trans HB6.out HB7.out
    refine ⟨_, rfl, ⟨w7.heap.size, A7, n7, cp7, b7, q, rfl, h67.size, blk_new w7 _, HE7.out, ?_, HQ6.out.below (below_trans (w1 := w7) HB7.out ((Below.refl w7.heap.size w7).alloc (Nat.le_refl _) _) )⟩, h67.alloc h67.size _⟩
    refine (HR7.out.below ((Below.refl _ _).alloc (Nat.le_refl _) _)).keep (fun t ht _ => ?_) (fun _ _ _ => rfl)
    exact ht.imp id fun h => Nat.le_trans h6s h
set_option maxRecDepth 100000 in
set_option maxHeartbeats 8000000 in
theorem pput_rec (K : Nat → Prop) (n : Nat) (p : Option Addr) (y bits zz : Int) (l i b : Nat) (g nn cp : Nat) (A : Option Addr) (cc : Nat → Option (List Value)) (k : ByteArray) (x : Int) (w : World) (hl : l ≤ 12) (hi : i < 32)
    (hg : w.heap[g]? = some (.cells #[.int .u32 (b : Int), .slice A nn cp, .slice none 0 0] NT (0, 0))) (hbb : b = bitsN (has cc) 32) (hrow : RowS K w (.slice A nn cp) cc)
    (HS : ∀ V, Calls Tryd.prog 33 #[mpv y bits n p, .string k] V (Ret (fun v _ => v = .int .u64 zz) V)) (HC : ∀ V, Calls Tryd.prog 78 #[.int .u64 zz, .int .i64 (l : Int)] V (Ret (fun v _ => v = .int .i64 (i : Int)) V))
    (c : Cf) (d : Nat) (M' : List Pr) (fr : Bool) (q0 : Option Addr) (hq0 : ∃ g0, q0 = some ⟨g0, 0, none⟩)
    (HF : ∀ V, Below w.heap.size w V → Calls Tryd.prog 75 #[mpv y bits n p, .pointer q0, .int .i64 ((l : Int) + 1), .agg #[.string k, .int .i64 x]] V (Ret (fun v w' => ∃ q, v = .tuple #[.pointer q, .bool fr] ∧ HRep c (New (fun b => K b ∧ b < w.heap.size) V) w' d q M') V))
    (HG : GetsV g b (.slice A nn cp) i w (slv ⟨#[]⟩ 0 q0 true)) :
    Calls Tryd.prog 75 #[mpv y bits n p, .pointer (some ⟨g, 0, none⟩), .int .i64 (l : Int), .agg #[.string k, .int .i64 x]] w (Ret (fun v w' => NodeR K w cc i XN (fun w' q => HRep c (New K w) w' d q M') fr v w') w) := by
  have HRS := Lib.hid (fun (q : Option Addr) V (hw : Below w.heap.size w V) => rset_c K cc b i hbb hi (.slice A nn cp) ⟨#[]⟩ 0 q V (hrow.below hw))
  obtain ⟨g0, rfl⟩ := hq0
  have HFF := Lib.hid HF; clear HF
  obtain ⟨⟨k0, k1, -⟩, -⟩ := box3 hg
  have hglt := blk_lt hg
  have P0 := blk_alloc (blk_new w (.cells #[.int .u64 y, .int .i64 bits, .int .i64 (n : Int), .pointer p] MT)) (.cells #[.string k, .int .i64 x] PT)
  have P1 := heap_k1 w (.cells #[.int .u64 y, .int .i64 bits, .int .i64 (n : Int), .pointer p] MT) (.cells #[.string k, .int .i64 x] PT)
  have hB0 : Below w.heap.size w ((w.alloc (.cells #[.int .u64 y, .int .i64 bits, .int .i64 (n : Int), .pointer p] MT)).alloc (.cells #[.string k, .int .i64 x] PT)) := ((Below.refl w.heap.size w).alloc (Nat.le_refl _) _).alloc (by simp) _
  have hW1s : w.heap.size + 1 < ((w.alloc (.cells #[.int .u64 y, .int .i64 bits, .int .i64 (n : Int), .pointer p] MT)).alloc (.cells #[.string k, .int .i64 x] PT)).heap.size := by simp
  have hlI : (l : Int) < 13 := by omega
  have hl13 : ((l : Int) == 13) = false := beq_false_of_ne (by omega)
  have hws : IntKind.i64.wrap ((l : Int) + 1) = (l : Int) + 1 := by rw [IntKind.wrap_i64]; omega
  have HR := Lib.hid hrow; have HBB := Lib.hid hbb
  have HSS := Lib.hid HS; have HCC := Lib.hid HC; have HGG := Lib.hid (fun V (hw : Below w.heap.size w V) => HG V hw)
  clear hg hrow hbb HS HC HG
  go_enter Tryd.func75, Tryd.ntmps75
  go_wp2_with fail
  generalize (w.alloc (.cells #[.int .u64 y, .int .i64 bits, .int .i64 (n : Int), .pointer p] MT)).alloc (.cells #[.string k, .int .i64 x] PT) = W1 at P0 P1 hB0 hW1s ⊢
  have k01 := cell_below k0 hB0
  have k11 := cell_below k1 hB0
  obtain ⟨⟨m0, m1, m2, m3⟩, -⟩ := box4 P0
  obtain ⟨⟨p0, p1⟩, -, -⟩ := box2 P1
  have HB0 := Lib.hid hB0
  have hs0 := hB0.size
  clear P0 P1 hB0 k0 k1
  go_wp2_with (first
      | (go_at_call 33; ((with_reducible refine (HSS.out _).mono ?_); rintro e w2 ⟨v, rfl, rfl, hb2⟩; have hB2 : Below W1.heap.size W1 w2 := below_trans (by first | exact Below.refl _ _ | exact (Below.refl _ _).drew) hb2))
      | (go_at_call 78; ((with_reducible refine (HCC.out _).mono ?_); rintro e w3 ⟨v, rfl, rfl, hb3⟩; have hB3 : Below W1.heap.size W1 w3 := below_trans hB2 hb3; have k03 := cell_below k01 hB3; have k13 := cell_below k11 hB3))
      | (go_at_call 77; ((with_reducible refine (HGG.out _ (below_trans HB0.out hB3)).mono ?_); rintro e w4 ⟨v, rfl, rfl, hb4⟩; have hB4 : Below W1.heap.size W1 w4 := below_trans hB3 hb4; have k04 := cell_below k01 hB4; have k14 := cell_below k11 hB4; have p04 := cell_below p0 hB4; have p14 := cell_below p1 hB4; have m04 := cell_below m0 hB4; have m14 := cell_below m1 hB4; have m24 := cell_below m2 hB4; have m34 := cell_below m3 hB4; have hal := (fun o => (Below.refl w4.heap.size w4).alloc (Nat.le_refl _) o); have k05 := (fun o => cell_below k04 (hal o)); have k15 := (fun o => cell_below k14 (hal o)); have p05 := (fun o => cell_below p04 (hal o)); have p15 := (fun o => cell_below p14 (hal o)); have m05 := (fun o => cell_below m04 (hal o)); have m15 := (fun o => cell_below m14 (hal o)); have m25 := (fun o => cell_below m24 (hal o)); have m35 := (fun o => cell_below m34 (hal o)); have hs4 := hB4.size; have n41 : w4.heap.size ≠ g := (by omega); have n42 : w4.heap.size ≠ w.heap.size := (by omega); have n43 : w4.heap.size ≠ w.heap.size + 1 := (by omega)))
      | (go_at_call 75; ((with_reducible refine (HFF.out _ (below_trans HB0.out (below_trans hB4 (hal _)))).mono ?_); rintro e w5 ⟨v, rfl, ⟨q, rfl, hQ⟩, hb5⟩; have B5 := blk_below (blk_new w4 (.cells #[.string ⟨#[]⟩, .int .i64 0, .pointer (some ⟨g0, 0, none⟩)] ST)) hb5; obtain ⟨⟨z05, z15, z25⟩, fz0, fz1, fz2⟩ := box3 B5; have hb45 : Below w4.heap.size w4 w5 := below_trans (hal (.cells #[.string ⟨#[]⟩, .int .i64 0, .pointer (some ⟨g0, 0, none⟩)] ST)) hb5; have hKq : ∀ t, New (fun b => K b ∧ b < w.heap.size) (w4.alloc (.cells #[.string ⟨#[]⟩, .int .i64 0, .pointer (some ⟨g0, 0, none⟩)] ST)) t → t ≠ w4.heap.size ∧ New K w t := (fun t ht => (by rcases ht with ⟨h1, h2⟩ | h1 <;> first | exact ⟨by omega, Or.inl h1⟩ | (have h3 : (w4.alloc (.cells #[.string ⟨#[]⟩, .int .i64 0, .pointer (some ⟨g0, 0, none⟩)] ST)).heap.size ≤ t := h1; simp only [World.size_alloc] at h3; exact ⟨by omega, Or.inr (show w.heap.size ≤ t by omega)⟩)))))
      | fail)
  have Z6 : (w5.setCell ⟨w4.heap.size, 2, none⟩ (.pointer q)).heap[w4.heap.size]? = some (.cells #[.string ⟨#[]⟩, .int .i64 0, .pointer q] ST (0, 0)) := blk_put (cs := #[.string ⟨#[]⟩, .int .i64 0, .pointer (some ⟨g0, 0, none⟩)]) B5 2 (.pointer q) rfl
  have hB6 : Below w4.heap.size w4 (w5.setCell ⟨w4.heap.size, 2, none⟩ (.pointer q)) := (hb45.setCell (p := ⟨w4.heap.size, 2, none⟩) (Nat.le_refl w4.heap.size) (.pointer q))
  have k06 := cell_below k04 hB6
  have k16 := cell_below k14 hB6
  have HB6 := Lib.hid (below_trans HB0.out (below_trans hB4 hB6))
  have hQ6 : HRep c (New K w) (w5.setCell ⟨w4.heap.size, 2, none⟩ (.pointer q)) d q M' := hQ.keep (fun t ht _ => (hKq t ht).2) (fun t ht _ => (heap_setCell_other _ _ _ _ (hKq t ht).1))
  generalize (w5.setCell ⟨w4.heap.size, 2, none⟩ (.pointer q)) = W6 at Z6 HB6 k06 k16 hQ6 ⊢
  obtain ⟨⟨z0, z1, z2⟩, -⟩ := box3 Z6
  have HQ6 := Lib.hid hQ6
  clear Z6 hQ6 hQ hKq hB6 hb45 hb5 B5 hB2 hB3 hB4 hb2 hb3 hb4 k03 k13 k05 k15 p05 p15 m05 m15 m25 m35 hal k04 k14 p04 p14 m04 m14 m24 m34 k01 k11 m0 m1 m2 m3 p0 p1
  first
  | (go_region_with (first
      | (go_at_call 101; (with_reducible refine (HRS.out _ _ HB6.out.drew).mono ?_); rintro e w7 ⟨v, rfl, ⟨A7, n7, cp7, b7, rfl, hb7', hR7⟩, hb7⟩; have HB7 := Lib.hid (below_trans (w1 := W6.drew) (Below.refl W6.heap.size W6).drew hb7); have HR7 := Lib.hid hR7; have HE7 := Lib.hid hb7'; clear hR7 hb7' hb7)))
  | fail
  all_goals go_wp2_with fail
  all_goals
    go_returns
    have h6s := HB6.out.size
    have h67 := below_trans HB6.out HB7.out
    refine ⟨_, rfl, ⟨w7.heap.size, A7, n7, cp7, b7, q, rfl, h67.size, blk_new w7 _, HE7.out, ?_, HQ6.out.below (below_trans (w1 := w7) HB7.out ((Below.refl w7.heap.size w7).alloc (Nat.le_refl _) _) )⟩, h67.alloc h67.size _⟩
    refine (HR7.out.below ((Below.refl _ _).alloc (Nat.le_refl _) _)).keep (fun t ht _ => ?_) (fun _ _ _ => rfl)
    exact ht.imp id fun h => Nat.le_trans h6s h
end Go.Proofs.YtnegblckbomgdaaDoor.Ht
end
section
namespace Go.Proofs.YtnegblckbomgdaaDoor.Ht
open Go Go.RowKit Go.Proofs.YtnegblckbomgdaaDoor.Mem Go.Proofs.YtnegblckbomgdaaDoor.PA Go.Proofs.YtnegblckbomgdaaDoorW.PrintWords Go.Proofs.YtnegblckbomgdaaDoor.U64
attribute [local go_sem ↓] Go.wp_at_zero Go.wp_at_succ
def PutP (c : Cf) (d : Nat) : Prop := ∀ (K : Nat → Prop) (n : Nat) (p pn : Option Addr) (l : Nat) (M : List Pr) (k : ByteArray) (x : Int) (w : World), l + d = 13 → HRep c K w d pn M → Srt M → Sm M → (d = 0 → M ≠ []) → M.length ≤ 1000000 → k.size ≤ 1000000 →
  Calls Tryd.prog 75 #[mpv (U c.1) c.2 n p, .pointer pn, .int .i64 (l : Int), .agg #[.string k, .int .i64 x]] w (Ret (fun v w' => ∃ q, v = .tuple #[.pointer q, .bool (lkp M k).isNone] ∧ HRep c (New K w) w' d q (ins M k x)) w)
theorem node_join {c : Cf} {K : Nat → Prop} {w w' : World} {d l i : Nat} {M M' : List Pr} {q : Nat → Option Addr} {X : Option Addr → List Value} {Good : World → Option Addr → Prop} {fr : Bool} {v : Value} (hdl : 12 - d = l) (hB : Below w.heap.size w w')
    (hkids : ∀ j, j < 32 → 2 ≤ (grp (chk c l) j M).length → HRep c K w d (q j) (grp (chk c l) j M)) (hsame : ∀ j, j ≠ i → grp (chk c l) j M' = grp (chk c l) j M) (hX : ∀ q', some (X q') = slotOf (grp (chk c l) i M') q')
    (hGood : ∀ q', Good w' q' → 2 ≤ (grp (chk c l) i M').length → HRep c (New K w) w' d q' (grp (chk c l) i M')) (h : NodeR K w (conts c l M q) i X Good fr v w') :
    ∃ qn, v = .tuple #[.pointer qn, .bool fr] ∧ HRep c (New K w) w' (d + 1) qn M' := by
  obtain ⟨g', A', n', cp', b', q', rfl, hg', hh, hb, hr, hG⟩ := h
  have hc : put (conts c l M q) i (some (X q')) = conts c l M' (fun j => if j = i then q' else q j) := by
    funext j
    unfold conts put
    by_cases hj : j = i
    · subst hj
      rw [if_pos rfl, hX]
      show slotOf _ q' = slotOf _ (if j = j then q' else q j)
      rw [if_pos rfl]
    · rw [if_neg hj]
      show slotOf (grp (chk c l) j M) (q j) = slotOf (grp (chk c l) j M') (if j = i then q' else q j)
      rw [hsame j hj, if_neg hj]
  subst hb
  refine ⟨_, rfl, node_of l hdl hc hh (New.fresh hg') hr fun j hj h2 => ?_⟩
  by_cases hji : j = i
  · subst hji; rw [if_pos rfl]; exact hGood _ hG h2
  · rw [if_neg hji]
    rw [hsame j hji] at h2 ⊢
    exact ((hkids j hj h2).below hB).mono fun t ht => New.old ht
theorem ins_length_ge {L : List Pr} (h : Srt L) (k : ByteArray) (x : Int) : L.length ≤ (ins L k x).length := by
  cases hl : lkp L k with
  | none => rw [ins_length_none h x hl]; omega
  | some y => rw [ins_length_some h x hl]; exact Nat.le_refl _
theorem ret_of {P Q : Value → World → Prop} {f : FuncId} {args : Array Value} {w : World} (h : Calls Tryd.prog f args w (Ret P w)) (hPQ : ∀ v w', Below w.heap.size w w' → P v w' → Q v w') : Calls Tryd.prog f args w (Ret Q w) := by
  refine h.mono ?_
  rintro e w' ⟨v, rfl, hp, hb⟩
  exact ⟨v, rfl, hPQ v w' hb hp, hb⟩
theorem put_inner (c : Cf) (d : Nat) (ih : PutP c d) : PutP c (d + 1) := by
  intro K n p pn l M k x w hl h hS hSm hne hn hk
  have hl12 : l ≤ 12 := by omega
  have hdl : 12 - d = l := by omega
  have H0 := h
  obtain ⟨g, s, q, rfl, hKg, hg, hrow, hkids⟩ := h
  rw [hdl] at hg hrow hkids
  obtain ⟨A, nn, cp, rfl⟩ := row_form' hrow
  obtain ⟨i, hi⟩ : ∃ i, i = chk c l k := ⟨_, rfl⟩
  have hi32 : i < 32 := by rw [hi]; exact chk_lt _ _ _
  have HS := fun V => sum_c c n p k (by omega) V
  have HC := fun V => chunk_c c k l hl12 V
  rw [← hi] at HC
  have hgi : ∀ j, grp (chk c l) j (ins M k x) = if i = j then ins (grp (chk c l) j M) k x else grp (chk c l) j M := fun j => by rw [ins_grp hS, hi]
  have hsame : ∀ j, j ≠ i → grp (chk c l) j (ins M k x) = grp (chk c l) j M := fun j hj => by rw [hgi, if_neg (fun e => hj e.symm)]
  have hII : grp (chk c l) i (ins M k x) = ins (grp (chk c l) i M) k x := by rw [hgi, if_pos rfl]
  have hlk : lkp (grp (chk c l) i M) k = lkp M k := by rw [hi, lkp_grp]
  have hSG : Srt (grp (chk c l) i M) := hS.grp _ _
  have hSmG : Sm (grp (chk c l) i M) := hSm.grp _ _
  have hGl : (grp (chk c l) i M).length ≤ M.length := List.length_filter_le _ _
  have hcx : conts c l M q i = slotOf (grp (chk c l) i M) (q i) := rfl
  have hki := hkids i hi32
  have hGN := fun V (hw : Below w.heap.size w V) (hx : conts c l M q i = none) => get_none (conts c l M q) _ i rfl hi32 (.slice A nn cp) ⟨_, _, _, rfl⟩ V hx
  have hGS := fun k x q' V (hw : Below w.heap.size w V) (hx : conts c l M q i = some [.string k, .int .i64 x, .pointer q']) => get_some K (conts c l M q) _ i rfl hi32 (.slice A nn cp) k x q' V (hrow.below hw) hx
  generalize hGE : grp (chk c l) i M = G at hcx hki hII hlk hSG hSmG hGl
  match G with
  | [] =>
    have e1 : (lkp M k).isNone = true := by rw [← hlk]; rfl
    rw [e1]
    refine ret_of (pput_none K n p (U c.1) c.2 _ l i _ g nn cp A (conts c l M q) k x w hl12 hi32 hg rfl hrow HS HC (fun V hw => hGN V hw hcx)) fun v w' hB h => ?_
    have e2 : grp (chk c l) i (ins M k x) = [(k, x)] := by rw [hII]; rfl
    refine node_join hdl hB hkids hsame (fun q' => by rw [e2]; rfl) (fun q' _ h2 => ?_) h
    rw [e2] at h2; simp at h2
  | [e] =>
    by_cases hek : e.1 = k
    · have e1 : (lkp M k).isNone = false := by rw [← hlk, lkp_cons, if_pos hek]; rfl
      rw [e1]
      refine ret_of (pput_same K n p (U c.1) c.2 _ l i _ g nn cp A (conts c l M q) k x e.2 w hl12 hi32 hg rfl hrow HS HC (fun V hw => hGS _ _ _ V hw (by rw [hcx, ← hek]; rfl))) fun v w' hB h => ?_
      have e2 : grp (chk c l) i (ins M k x) = [(k, x)] := by rw [hII, ← hek]; exact ins_same e x
      refine node_join hdl hB hkids hsame (fun q' => by rw [e2]; rfl) (fun q' _ h2 => ?_) h
      rw [e2] at h2; simp at h2
    · have e1 : (lkp M k).isNone = true := by rw [← hlk, lkp_cons, if_neg hek]; rfl
      rw [e1]
      have e2 : grp (chk c l) i (ins M k x) = pl e (k, x) := by rw [hII]; exact ins_one hek
      have hF := fun V => fork_c c d n p (l + 1) e (k, x) V (by omega) hek (hSmG e (by simp)) hk
      rw [show ((l + 1 : Nat) : Int) = (l : Int) + 1 by push_cast; rfl] at hF
      refine ret_of (pput_fork K n p (U c.1) c.2 _ l i _ g nn cp A (conts c l M q) k e.1 x e.2 w hl12 hi32 hg rfl hrow HS HC c d (pl e (k, x)) (str_ne hek) hF (fun V hw => hGS _ _ _ V hw hcx)) fun v w' hB h => ?_
      refine node_join hdl hB hkids hsame (fun q' => by rw [e2]; exact (slotOf_two (by rw [pl_length]; exact Nat.le_refl _) q').symm) (fun q' hq h2 => ?_) h
      rw [e2]; exact hq
  | e1 :: e2 :: r =>
    have hq := hki (by simp)
    rw [← hlk]
    obtain ⟨g0, hq0, -, -⟩ := hq.ptr
    have h2 : 2 ≤ (ins (e1 :: e2 :: r) k x).length := Nat.le_trans (by simp) (ins_length_ge hSG k x)
    have hF := fun V (hw : Below w.heap.size w V) => ih (fun b => K b ∧ b < w.heap.size) n p (q i) (l + 1) (e1 :: e2 :: r) k x V (by omega) (hq.bound.below hw) hSG hSmG (fun _ => by simp) (Nat.le_trans hGl hn) hk
    rw [show ((l + 1 : Nat) : Int) = (l : Int) + 1 by push_cast; rfl] at hF
    refine ret_of (pput_rec K n p (U c.1) c.2 _ l i _ g nn cp A (conts c l M q) k x w hl12 hi32 hg rfl hrow HS HC c d (ins (e1 :: e2 :: r) k x) _ (q i) ⟨g0, hq0⟩ hF (fun V hw => hGS _ _ _ V hw hcx)) fun v w' hB h => ?_
    refine node_join hdl hB hkids hsame (fun q' => by rw [hII]; exact (slotOf_two h2 q').symm) (fun q' hq h2 => ?_) h
    rw [hII]; exact hq
theorem put_c (c : Cf) (d : Nat) : PutP c d := by
  induction d with
  | zero =>
    intro K n p pn l M k x w hl h hS hSm hne hn hk
    obtain rfl : l = 13 := by omega
    exact put_leaf c K n p pn M k x w h hS (hne rfl) hn
  | succ d ih => exact put_inner c d ih
end Go.Proofs.YtnegblckbomgdaaDoor.Ht
end
section
namespace Go.Proofs.YtnegblckbomgdaaDoor.Ht
open Go Go.RowKit Go.Proofs.YtnegblckbomgdaaDoor.Mem Go.Proofs.YtnegblckbomgdaaDoor.PA Go.Proofs.YtnegblckbomgdaaDoorW.PrintWords Go.Proofs.YtnegblckbomgdaaDoor.U64
attribute [local go_sem ↓] Go.wp_at_zero Go.wp_at_succ
abbrev Kq (K : Nat → Prop) (w : World) : Nat → Prop := fun t => (K t ∧ t < w.heap.size) ∨ w.heap.size + 1 < t
theorem rep_set {c : Cf} {K : Nat → Prop} {w W : World} {d : Nat} {q : Option Addr} {L : List Pr} (a : Addr) (v : Value) (ha : a.block = w.heap.size ∨ a.block = w.heap.size + 1) (h : HRep c (Kq K w) W d q L) : HRep c (Kq K w) (W.setCell a v) d q L :=
  h.keep (fun _ h _ => h) fun t ht _ => heap_setCell_other _ _ _ _ (by
    have ht' : (K t ∧ t < w.heap.size) ∨ w.heap.size + 1 < t := ht
    omega)
theorem rep_new {c : Cf} {K : Nat → Prop} {w W : World} {d : Nat} {q : Option Addr} {L : List Pr} (h : HRep c (Kq K w) W d q L) : HRep c (New K w) W d q L :=
  h.mono fun t ht => ht.elim (fun h => New.old h.1) fun h => New.fresh (show w.heap.size ≤ t by omega)
set_option maxRecDepth 100000 in
set_option maxHeartbeats 4000000 in
theorem mset_nil_new (c : Cf) (K : Nat → Prop) (n : Nat) (y bits : Int) (L' : List Pr) (k : ByteArray) (x : Int) (w : World) (hn : n ≤ 1000000)
    (HP : ∀ V, Below w.heap.size w V → w.heap.size + 1 < V.heap.size → V.heap[w.heap.size + 1 + 1]? = some (.cells #[.int .u32 0, .slice none 0 0, .slice none 0 0] NT (0, 0)) → Calls Tryd.prog 75 #[mpv y bits n none, .pointer (some ⟨w.heap.size + 1 + 1, 0, none⟩), .int .i64 0, .agg #[.string k, .int .i64 x]] V (fun e w' => ∃ q, e = .returned (.tuple #[.pointer q, .bool true]) ∧ HRep c (Kq K w) w' 13 q L' ∧ Below V.heap.size V w')) :
    Calls Tryd.prog 25 #[mpv y bits n none, .string k, .int .i64 x] w (Ret (fun v w' => ∃ q, v = .agg #[.int .u64 y, .int .i64 bits, .int .i64 ((n : Int) + 1), .pointer q] ∧ HRep c (New K w) w' 13 q L') w) := by
  have HPP := Lib.hid HP; clear HP
  have hws : IntKind.i64.wrap ((n : Int) + 1) = (n : Int) + 1 := by rw [IntKind.wrap_i64]; omega
  have B0 := blk_alloc (blk_alloc (blk_new w (.cells #[.int .u64 y, .int .i64 bits, .int .i64 (n : Int), .pointer none] MT)) (.cells #[.int .u64 0, .int .i64 0, .int .i64 0, .pointer none] MT)) (.cells #[.int .u32 0, .slice none 0 0, .slice none 0 0] NT)
  have B1 := blk_alloc (heap_k1 w (.cells #[.int .u64 y, .int .i64 bits, .int .i64 (n : Int), .pointer none] MT) (.cells #[.int .u64 0, .int .i64 0, .int .i64 0, .pointer none] MT)) (.cells #[.int .u32 0, .slice none 0 0, .slice none 0 0] NT)
  have B2 := heap_k2 w (.cells #[.int .u64 y, .int .i64 bits, .int .i64 (n : Int), .pointer none] MT) (.cells #[.int .u64 0, .int .i64 0, .int .i64 0, .pointer none] MT) (.cells #[.int .u32 0, .slice none 0 0, .slice none 0 0] NT)
  have hB0 : Below w.heap.size w (((w.alloc (.cells #[.int .u64 y, .int .i64 bits, .int .i64 (n : Int), .pointer none] MT)).alloc (.cells #[.int .u64 0, .int .i64 0, .int .i64 0, .pointer none] MT)).alloc (.cells #[.int .u32 0, .slice none 0 0, .slice none 0 0] NT)) := (((Below.refl w.heap.size w).alloc (Nat.le_refl _) _).alloc (by simp) _).alloc (by simp; omega) _
  have hs0 : w.heap.size + 1 < (((w.alloc (.cells #[.int .u64 y, .int .i64 bits, .int .i64 (n : Int), .pointer none] MT)).alloc (.cells #[.int .u64 0, .int .i64 0, .int .i64 0, .pointer none] MT)).alloc (.cells #[.int .u32 0, .slice none 0 0, .slice none 0 0] NT)).heap.size := by simp <;> omega
  have HB0 := Lib.hid B0; have HB1 := Lib.hid B1; have HBB := Lib.hid hB0; have HS0 := Lib.hid hs0; have HB2 := Lib.hid B2
  clear B0 B1 hB0 hs0 B2
  go_enter Tryd.func25, Tryd.ntmps25
  go_wp2_with (first
    | (go_at_call 75; ((with_reducible refine (HPP.out _ HBB.out HS0.out HB2.out).mono ?_); rintro e w5 ⟨q, rfl, hQ, hb5⟩; have M5 := blk_below HB0.out hb5; have R5 := blk_below HB1.out hb5; obtain ⟨⟨m0, m1, m2, m3⟩, fm0, fm1, fm2, fm3⟩ := box4 M5; obtain ⟨⟨r0, r1, r2, r3⟩, fr0, fr1, fr2, fr3⟩ := box4 R5; have HB5 := Lib.hid (below_trans HBB.out hb5); have HM5 := Lib.hid M5; have HR5 := Lib.hid R5; clear M5 R5 hb5))
    | fail)
  refine bodyPost_ret (results_c1 rfl _ _ (w.heap.size + 1) MT #[.int .u64 y, .int .i64 bits, .int .i64 ((n : Int) + 1), .pointer q] (0, 0) _ rfl (put4 (blk_far (blk_far HR5.out (p := ⟨w.heap.size, 3, none⟩) (Nat.ne_of_gt (Nat.lt_succ_self _)) (.pointer q)) (p := ⟨w.heap.size, 2, none⟩) (Nat.ne_of_gt (Nat.lt_succ_self _)) (.int .i64 ((n : Int) + 1)))) Tryd.underlying30 rfl (by kernel_rfl)) rfl ?_
  exact ⟨_, rfl, ⟨q, rfl, rep_new (rep_set ⟨w.heap.size + 1, 3, none⟩ (.pointer q) (Or.inr rfl) (rep_set ⟨w.heap.size + 1, 2, none⟩ (.int .i64 ((n : Int) + 1)) (Or.inr rfl) (rep_set ⟨w.heap.size + 1, 1, none⟩ (.int .i64 bits) (Or.inr rfl) (rep_set ⟨w.heap.size + 1, 0, none⟩ (.int .u64 y) (Or.inr rfl) (rep_set ⟨w.heap.size, 2, none⟩ (.int .i64 ((n : Int) + 1)) (Or.inl rfl) (rep_set ⟨w.heap.size, 3, none⟩ (.pointer q) (Or.inl rfl) hQ))))))⟩, ((((((HB5.out.setCell (p := ⟨w.heap.size, 3, none⟩) (Nat.le_refl _) (.pointer q)).setCell (p := ⟨w.heap.size, 2, none⟩) (Nat.le_refl _) (.int .i64 ((n : Int) + 1))).setCell (p := ⟨w.heap.size + 1, 0, none⟩) (Nat.le_succ _) (.int .u64 y)).setCell (p := ⟨w.heap.size + 1, 1, none⟩) (Nat.le_succ _) (.int .i64 bits)).setCell (p := ⟨w.heap.size + 1, 2, none⟩) (Nat.le_succ _) (.int .i64 ((n : Int) + 1))).setCell (p := ⟨w.heap.size + 1, 3, none⟩) (Nat.le_succ _) (.pointer q))⟩
set_option maxRecDepth 100000 in
set_option maxHeartbeats 4000000 in
theorem mset_new (c : Cf) (K : Nat → Prop) (n : Nat) (g : Nat) (y bits : Int) (L' : List Pr) (k : ByteArray) (x : Int) (w : World) (hn : n ≤ 1000000)
    (HP : ∀ V, Below w.heap.size w V → w.heap.size + 1 < V.heap.size → Calls Tryd.prog 75 #[mpv y bits n (some ⟨g, 0, none⟩), .pointer (some ⟨g, 0, none⟩), .int .i64 0, .agg #[.string k, .int .i64 x]] V (fun e w' => ∃ q, e = .returned (.tuple #[.pointer q, .bool true]) ∧ HRep c (Kq K w) w' 13 q L' ∧ Below V.heap.size V w')) :
    Calls Tryd.prog 25 #[mpv y bits n (some ⟨g, 0, none⟩), .string k, .int .i64 x] w (Ret (fun v w' => ∃ q, v = .agg #[.int .u64 y, .int .i64 bits, .int .i64 ((n : Int) + 1), .pointer q] ∧ HRep c (New K w) w' 13 q L') w) := by
  have HPP := Lib.hid HP; clear HP
  have hws : IntKind.i64.wrap ((n : Int) + 1) = (n : Int) + 1 := by rw [IntKind.wrap_i64]; omega
  have B0 := blk_alloc (blk_new w (.cells #[.int .u64 y, .int .i64 bits, .int .i64 (n : Int), .pointer (some ⟨g, 0, none⟩)] MT)) (.cells #[.int .u64 0, .int .i64 0, .int .i64 0, .pointer none] MT)
  have B1 := heap_k1 w (.cells #[.int .u64 y, .int .i64 bits, .int .i64 (n : Int), .pointer (some ⟨g, 0, none⟩)] MT) (.cells #[.int .u64 0, .int .i64 0, .int .i64 0, .pointer none] MT)
  have hB0 : Below w.heap.size w ((w.alloc (.cells #[.int .u64 y, .int .i64 bits, .int .i64 (n : Int), .pointer (some ⟨g, 0, none⟩)] MT)).alloc (.cells #[.int .u64 0, .int .i64 0, .int .i64 0, .pointer none] MT)) := ((Below.refl w.heap.size w).alloc (Nat.le_refl _) _).alloc (by simp) _
  have hs0 : w.heap.size + 1 < ((w.alloc (.cells #[.int .u64 y, .int .i64 bits, .int .i64 (n : Int), .pointer (some ⟨g, 0, none⟩)] MT)).alloc (.cells #[.int .u64 0, .int .i64 0, .int .i64 0, .pointer none] MT)).heap.size := by simp
  have HB0 := Lib.hid B0; have HB1 := Lib.hid B1; have HBB := Lib.hid hB0; have HS0 := Lib.hid hs0
  clear B0 B1 hB0 hs0
  go_enter Tryd.func25, Tryd.ntmps25
  go_wp2_with (first
    | (go_at_call 75; ((with_reducible refine (HPP.out _ HBB.out HS0.out).mono ?_); rintro e w5 ⟨q, rfl, hQ, hb5⟩; have M5 := blk_below HB0.out hb5; have R5 := blk_below HB1.out hb5; obtain ⟨⟨m0, m1, m2, m3⟩, fm0, fm1, fm2, fm3⟩ := box4 M5; obtain ⟨⟨r0, r1, r2, r3⟩, fr0, fr1, fr2, fr3⟩ := box4 R5; have HB5 := Lib.hid (below_trans HBB.out hb5); have HM5 := Lib.hid M5; have HR5 := Lib.hid R5; clear M5 R5 hb5))
    | fail)
  refine bodyPost_ret (results_c1 rfl _ _ (w.heap.size + 1) MT #[.int .u64 y, .int .i64 bits, .int .i64 ((n : Int) + 1), .pointer q] (0, 0) _ rfl (put4 (blk_far (blk_far HR5.out (p := ⟨w.heap.size, 3, none⟩) (Nat.ne_of_gt (Nat.lt_succ_self _)) (.pointer q)) (p := ⟨w.heap.size, 2, none⟩) (Nat.ne_of_gt (Nat.lt_succ_self _)) (.int .i64 ((n : Int) + 1)))) Tryd.underlying30 rfl (by kernel_rfl)) rfl ?_
  exact ⟨_, rfl, ⟨q, rfl, rep_new (rep_set ⟨w.heap.size + 1, 3, none⟩ (.pointer q) (Or.inr rfl) (rep_set ⟨w.heap.size + 1, 2, none⟩ (.int .i64 ((n : Int) + 1)) (Or.inr rfl) (rep_set ⟨w.heap.size + 1, 1, none⟩ (.int .i64 bits) (Or.inr rfl) (rep_set ⟨w.heap.size + 1, 0, none⟩ (.int .u64 y) (Or.inr rfl) (rep_set ⟨w.heap.size, 2, none⟩ (.int .i64 ((n : Int) + 1)) (Or.inl rfl) (rep_set ⟨w.heap.size, 3, none⟩ (.pointer q) (Or.inl rfl) hQ))))))⟩, ((((((HB5.out.setCell (p := ⟨w.heap.size, 3, none⟩) (Nat.le_refl _) (.pointer q)).setCell (p := ⟨w.heap.size, 2, none⟩) (Nat.le_refl _) (.int .i64 ((n : Int) + 1))).setCell (p := ⟨w.heap.size + 1, 0, none⟩) (Nat.le_succ _) (.int .u64 y)).setCell (p := ⟨w.heap.size + 1, 1, none⟩) (Nat.le_succ _) (.int .i64 bits)).setCell (p := ⟨w.heap.size + 1, 2, none⟩) (Nat.le_succ _) (.int .i64 ((n : Int) + 1))).setCell (p := ⟨w.heap.size + 1, 3, none⟩) (Nat.le_succ _) (.pointer q))⟩
set_option maxRecDepth 100000 in
set_option maxHeartbeats 4000000 in
theorem mset_old (c : Cf) (K : Nat → Prop) (n : Nat) (g : Nat) (y bits : Int) (L' : List Pr) (k : ByteArray) (x : Int) (w : World) (hn : n ≤ 1000000)
    (HP : ∀ V, Below w.heap.size w V → w.heap.size + 1 < V.heap.size → Calls Tryd.prog 75 #[mpv y bits n (some ⟨g, 0, none⟩), .pointer (some ⟨g, 0, none⟩), .int .i64 0, .agg #[.string k, .int .i64 x]] V (fun e w' => ∃ q, e = .returned (.tuple #[.pointer q, .bool false]) ∧ HRep c (Kq K w) w' 13 q L' ∧ Below V.heap.size V w')) :
    Calls Tryd.prog 25 #[mpv y bits n (some ⟨g, 0, none⟩), .string k, .int .i64 x] w (Ret (fun v w' => ∃ q, v = .agg #[.int .u64 y, .int .i64 bits, .int .i64 ((n : Int)), .pointer q] ∧ HRep c (New K w) w' 13 q L') w) := by
  have HPP := Lib.hid HP; clear HP
  have hws : IntKind.i64.wrap ((n : Int) + 1) = (n : Int) + 1 := by rw [IntKind.wrap_i64]; omega
  have B0 := blk_alloc (blk_new w (.cells #[.int .u64 y, .int .i64 bits, .int .i64 (n : Int), .pointer (some ⟨g, 0, none⟩)] MT)) (.cells #[.int .u64 0, .int .i64 0, .int .i64 0, .pointer none] MT)
  have B1 := heap_k1 w (.cells #[.int .u64 y, .int .i64 bits, .int .i64 (n : Int), .pointer (some ⟨g, 0, none⟩)] MT) (.cells #[.int .u64 0, .int .i64 0, .int .i64 0, .pointer none] MT)
  have hB0 : Below w.heap.size w ((w.alloc (.cells #[.int .u64 y, .int .i64 bits, .int .i64 (n : Int), .pointer (some ⟨g, 0, none⟩)] MT)).alloc (.cells #[.int .u64 0, .int .i64 0, .int .i64 0, .pointer none] MT)) := ((Below.refl w.heap.size w).alloc (Nat.le_refl _) _).alloc (by simp) _
  have hs0 : w.heap.size + 1 < ((w.alloc (.cells #[.int .u64 y, .int .i64 bits, .int .i64 (n : Int), .pointer (some ⟨g, 0, none⟩)] MT)).alloc (.cells #[.int .u64 0, .int .i64 0, .int .i64 0, .pointer none] MT)).heap.size := by simp
  have HB0 := Lib.hid B0; have HB1 := Lib.hid B1; have HBB := Lib.hid hB0; have HS0 := Lib.hid hs0
  clear B0 B1 hB0 hs0
  go_enter Tryd.func25, Tryd.ntmps25
  go_wp2_with (first
    | (go_at_call 75; ((with_reducible refine (HPP.out _ HBB.out HS0.out).mono ?_); rintro e w5 ⟨q, rfl, hQ, hb5⟩; have M5 := blk_below HB0.out hb5; have R5 := blk_below HB1.out hb5; obtain ⟨⟨m0, m1, m2, m3⟩, fm0, fm1, fm2, fm3⟩ := box4 M5; obtain ⟨⟨r0, r1, r2, r3⟩, fr0, fr1, fr2, fr3⟩ := box4 R5; have HB5 := Lib.hid (below_trans HBB.out hb5); have HM5 := Lib.hid M5; have HR5 := Lib.hid R5; clear M5 R5 hb5))
    | fail)
  refine bodyPost_ret (results_c1 rfl _ _ (w.heap.size + 1) MT #[.int .u64 y, .int .i64 bits, .int .i64 ((n : Int)), .pointer q] (0, 0) _ rfl (put4 (blk_far HR5.out (p := ⟨w.heap.size, 3, none⟩) (Nat.ne_of_gt (Nat.lt_succ_self _)) (.pointer q))) Tryd.underlying30 rfl (by kernel_rfl)) rfl ?_
  exact ⟨_, rfl, ⟨q, rfl, rep_new (rep_set ⟨w.heap.size + 1, 3, none⟩ (.pointer q) (Or.inr rfl) (rep_set ⟨w.heap.size + 1, 2, none⟩ (.int .i64 ((n : Int))) (Or.inr rfl) (rep_set ⟨w.heap.size + 1, 1, none⟩ (.int .i64 bits) (Or.inr rfl) (rep_set ⟨w.heap.size + 1, 0, none⟩ (.int .u64 y) (Or.inr rfl) (rep_set ⟨w.heap.size, 3, none⟩ (.pointer q) (Or.inl rfl) hQ)))))⟩, (((((HB5.out.setCell (p := ⟨w.heap.size, 3, none⟩) (Nat.le_refl _) (.pointer q)).setCell (p := ⟨w.heap.size + 1, 0, none⟩) (Nat.le_succ _) (.int .u64 y)).setCell (p := ⟨w.heap.size + 1, 1, none⟩) (Nat.le_succ _) (.int .i64 bits)).setCell (p := ⟨w.heap.size + 1, 2, none⟩) (Nat.le_succ _) (.int .i64 ((n : Int)))).setCell (p := ⟨w.heap.size + 1, 3, none⟩) (Nat.le_succ _) (.pointer q))⟩
theorem mset_c (c : Cf) (K : Nat → Prop) (v : Value) (L : List Pr) (k : ByteArray) (x : Int) (hk : k.size ≤ 1000000) (w : World) (h : MapV c K w v L) (hn : L.length ≤ 1000000) :
    Calls Tryd.prog 25 #[v, .string k, .int .i64 x] w (Ret (fun v' w' => MapV c (New K w) w' v' (ins L k x)) w) := by
  obtain ⟨p, rfl, hR, hS, hSm⟩ := h
  have hfin : ∀ (v' : Value) (w' : World) (m : Int), m = ((ins L k x).length : Int) → (∃ q, v' = .agg #[.int .u64 (U c.1), .int .i64 c.2, .int .i64 m, .pointer q] ∧ HRep c (New K w) w' 13 q (ins L k x)) → MapV c (New K w) w' v' (ins L k x) := by
    rintro v' w' m rfl ⟨q, rfl, hq⟩
    exact ⟨q, rfl, Or.inr hq, hS.ins k x, hSm.ins k x hk⟩
  rcases hR with ⟨rfl, rfl⟩ | hR
  · have HP := fun (V : World) (hw : Below w.heap.size w V) (hs : w.heap.size + 1 < V.heap.size) (hg : V.heap[w.heap.size + 1 + 1]? = some (.cells #[.int .u32 0, .slice none 0 0, .slice none 0 0] NT (0, 0))) =>
      (put_c c 13 (fun t => w.heap.size + 1 < t) 0 none (some ⟨w.heap.size + 1 + 1, 0, none⟩) 0 [] k x V rfl (node_of (q := fun _ => none) (cc := noneC) 0 rfl (by funext j; rfl) (by rw [bits_none]; exact hg) (Nat.lt_succ_self _) (rows_none _ V) (fun j hj h2 => by simp [grp] at h2)) hS hSm (fun h => by cases h) (by simp) hk)
    refine ret_of (mset_nil_new c K 0 (U c.1) c.2 (ins [] k x) k x w (by omega) fun V hw hs hg => ?_) fun v' w' hB h => hfin v' w' _ (by simp [ins, lo, hi]) h
    refine (HP V hw hs hg).mono ?_
    rintro e w' ⟨v, rfl, ⟨q, rfl, hq⟩, hb⟩
    exact ⟨q, rfl, hq.mono fun t ht => Or.inr (ht.elim id fun h => by have : V.heap.size ≤ t := h; omega), hb⟩
  · obtain ⟨g, hp, -, -⟩ := hR.ptr
    subst hp
    have HP := fun (V : World) (hw : Below w.heap.size w V) (hs : w.heap.size + 1 < V.heap.size) =>
      (put_c c 13 (fun b => K b ∧ b < w.heap.size) L.length (some ⟨g, 0, none⟩) (some ⟨g, 0, none⟩) 0 L k x V rfl (hR.bound.below hw) hS hSm (fun h => by cases h) hn hk)
    have HQ : ∀ (fr : Bool), (lkp L k).isNone = fr → ∀ (V : World), Below w.heap.size w V → w.heap.size + 1 < V.heap.size → Calls Tryd.prog 75 #[mpv (U c.1) c.2 L.length (some ⟨g, 0, none⟩), .pointer (some ⟨g, 0, none⟩), .int .i64 0, .agg #[.string k, .int .i64 x]] V (fun e w' => ∃ q, e = .returned (.tuple #[.pointer q, .bool fr]) ∧ HRep c (Kq K w) w' 13 q (ins L k x) ∧ Below V.heap.size V w') := fun fr hfr V hw hs => by
      refine (HP V hw hs).mono ?_
      rintro e w' ⟨v, rfl, ⟨q, rfl, hq⟩, hb⟩
      exact ⟨q, by rw [hfr], hq.mono fun t ht => ht.elim Or.inl fun h => Or.inr (by have : V.heap.size ≤ t := h; omega), hb⟩
    cases hl : lkp L k with
    | none =>
      exact ret_of (mset_new c K L.length g (U c.1) c.2 (ins L k x) k x w hn (HQ true (by rw [hl]; rfl))) fun v' w' hB h => hfin v' w' _ (by rw [ins_length_none hS x hl]; push_cast; rfl) h
    | some z =>
      exact ret_of (mset_old c K L.length g (U c.1) c.2 (ins L k x) k x w hn (HQ false (by rw [hl]; rfl))) fun v' w' hB h => hfin v' w' _ (by rw [ins_length_some hS x hl]) h
end Go.Proofs.YtnegblckbomgdaaDoor.Ht
end
section
namespace Go.Proofs.YtnegblckbomgdaaDoor.Ht
open Go Go.RowKit Go.Proofs.YtnegblckbomgdaaDoor.Mem Go.Proofs.YtnegblckbomgdaaDoor.PA Go.Proofs.YtnegblckbomgdaaDoorW.PrintWords Go.Proofs.YtnegblckbomgdaaDoor.U64
attribute [local go_sem ↓] Go.wp_at_zero Go.wp_at_succ
def NodeZ (K : Nat → Prop) (w : World) (cc : Nat → Option (List Value)) (i : Nat) (v : Value) (w' : World) : Prop :=
  ∃ (g' : Nat) (A' : Option Addr) (n' cp' b' : Nat), v = .tuple #[.pointer (some ⟨g', 0, none⟩), .bool true] ∧ w.heap.size ≤ g' ∧ w'.heap[g']? = some (.cells #[.int .u32 (b' : Int), .slice A' n' cp', .slice none 0 0] NT (0, 0)) ∧
    b' = bitsN (has (put cc i none)) 32 ∧ RowS (New K w) w' (.slice A' n' cp') (put cc i none)
theorem rcut_c (K : Nat → Prop) (cc : Nat → Option (List Value)) (b i : Nat) (hb : b = bitsN (has cc) 32) (hi : i < 32) (s : Value) (w : World) (h : RowS K w s cc) (hh : has cc i = true) :
    Calls Tryd.prog 111 #[.agg #[.int .u32 (b : Int), s], .int .i64 (i : Int)] w
      (Ret (fun v w' => ∃ (A : Option Addr) (n cp b' : Nat), v = .agg #[.int .u32 (b' : Int), .slice A n cp] ∧ b' = bitsN (has (put cc i none)) 32 ∧ RowS (New K w) w' (.slice A n cp) (put cc i none)) w) := by
  refine (cut_c K cc b i hb hi s w h hh).mono ?_
  rintro e w' ⟨v, rfl, ⟨s', rfl, hr⟩, hb'⟩
  obtain ⟨A, n, cp, rfl⟩ := row_form' hr
  exact ⟨_, rfl, ⟨A, n, cp, _, rfl, rfl, hr⟩, hb'⟩
set_option maxRecDepth 100000 in
set_option maxHeartbeats 4000000 in
theorem take_leaf_none (c : Cf) (K : Nat → Prop) (n : Nat) (p : Option Addr) (g : Nat) (s : Value) (M : List Pr) (k : ByteArray) (w : World) (hg : w.heap[g]? = some (.cells #[.int .u32 0, .slice none 0 0, s] NT (0, 0))) (hsl : SlK 2 K w s M.length (prs M)) (hS : Srt M) (hn : M.length ≤ 1000000) (y bits : Int) (hl : lkp M k = none) :
    Calls Tryd.prog 80 #[mpv y bits n p, .pointer (some ⟨g, 0, none⟩), .int .i64 13, .string k] w (Ret (fun v w' => v = .tuple #[.pointer (some ⟨g, 0, none⟩), .bool false]) w) := by
  obtain ⟨A, cp, rfl⟩ := hsl.form
  have HF := Lib.hid (fun V (hw : Below w.heap.size w V) => find_c K M hS hn _ k V (hsl.below hw))
  rw [hl] at HF
  obtain ⟨m, hm⟩ : ∃ m, m = M.length := ⟨_, rfl⟩
  rw [← hm] at HF hg
  generalize rnk M k = r at HF
  obtain ⟨⟨-, -, k2⟩, -⟩ := box3 hg
  have hglt := blk_lt hg
  have hB0 : Below w.heap.size w (w.alloc (.cells #[.int .u64 y, .int .i64 bits, .int .i64 (n : Int), .pointer p] MT)) := (Below.refl w.heap.size w).alloc (Nat.le_refl _) _
  clear hsl hS hm hn hl hg
  go_enter Tryd.func80, Tryd.ntmps80
  go_wp2_with fail
  generalize w.alloc (.cells #[.int .u64 y, .int .i64 bits, .int .i64 (n : Int), .pointer p] MT) = W1 at hB0 ⊢
  have k21 := cell_below k2 hB0
  go_wp2_with (first
      | (go_at_call 79; ((with_reducible refine (HF.out _ hB0).mono ?_); rintro e w2 ⟨v, rfl, rfl, hb2⟩))
      | fail)
  go_returns
  exact ⟨_, rfl, rfl, below_trans hB0 hb2⟩
set_option maxRecDepth 100000 in
set_option maxHeartbeats 4000000 in
theorem take_leaf_some (c : Cf) (K : Nat → Prop) (n : Nat) (p : Option Addr) (g : Nat) (s : Value) (M : List Pr) (k : ByteArray) (w : World) (hg : w.heap[g]? = some (.cells #[.int .u32 0, .slice none 0 0, s] NT (0, 0))) (hsl : SlK 2 K w s M.length (prs M)) (hS : Srt M) (hn : M.length ≤ 1000000) (y bits : Int) (z : Int) (hl : lkp M k = some z) :
    Calls Tryd.prog 80 #[mpv y bits n p, .pointer (some ⟨g, 0, none⟩), .int .i64 13, .string k] w (Ret (fun v w' => ∃ q, v = .tuple #[.pointer q, .bool true] ∧ HRep c (New K w) w' 0 q (del M k)) w) := by
  have hget := get_rnk hS hl
  have hrm : rnk M k < M.length := (List.getElem?_eq_some_iff.1 hget).1
  obtain ⟨A, cp, rfl⟩ := hsl.form
  obtain ⟨gl, rfl, hKl, hcl⟩ := hsl.addr (by omega)
  have HF := Lib.hid (fun V (hw : Below w.heap.size w V) => find_c K M hS hn _ k V (hsl.below hw))
  have HC := Lib.hid (fun V (hw : Below w.heap.size w V) => clone_c V gl M.length cp M rfl (by omega) (fun j u hj => cell_below (hcl j u hj) hw))
  rw [hl] at HF
  obtain ⟨m, hm⟩ : ∃ m, m + 1 = M.length := ⟨M.length - 1, by omega⟩
  rw [← hm] at HF HC hg hrm
  obtain ⟨r, hr⟩ : ∃ r, r = rnk M k := ⟨_, rfl⟩
  rw [← hr] at HF hrm
  have hmI : (m : Int) ≤ 1000000 := by omega
  have hrI : (r : Int) ≤ (m : Int) := by omega
  have hr0 : (0 : Int) ≤ (r : Int) := by omega
  have hm1 : m ≤ 1000000 := by omega
  have hrm1 : r ≤ m := by omega
  have hwr : IntKind.i64.wrap ((r : Int) + 1) = (r : Int) + 1 := by rw [IntKind.wrap_i64]; omega
  have hdel : prs (del M k) = (prs M).take (r * 2) ++ (prs M).drop ((r + 1) * 2) := by
    rw [del_take hS hl, prs_append, prs_take, prs_drop, hr]
  have hdl : (del M k).length = m := by have := del_length_some hS hl; omega
  have HD := Lib.hid hdel; have HDL := Lib.hid hdl
  obtain ⟨⟨-, -, k2⟩, -⟩ := box3 hg
  have hglt := blk_lt hg
  have hB0 : Below w.heap.size w (w.alloc (.cells #[.int .u64 y, .int .i64 bits, .int .i64 (n : Int), .pointer p] MT)) := (Below.refl w.heap.size w).alloc (Nat.le_refl _) _
  clear hsl hS hm hn hl hg hcl hget hr hdel hdl
  go_enter Tryd.func80, Tryd.ntmps80
  go_wp2_with fail
  generalize w.alloc (.cells #[.int .u64 y, .int .i64 bits, .int .i64 (n : Int), .pointer p] MT) = W1 at hB0 ⊢
  have k21 := cell_below k2 hB0
  go_wp2_with (first
      | (go_at_call 79; ((with_reducible refine (HF.out _ hB0).mono ?_); rintro e w2 ⟨v, rfl, rfl, hb2⟩; have k22 := cell_below k21 hb2; have HB2 := Lib.hid (below_trans hB0 hb2); clear hb2))
      | (go_at_call 98; ((with_reducible refine (HC.out _ HB2.out).mono ?_); rintro e w3 ⟨v, rfl, hO, hb3⟩; obtain ⟨g3, c3, rfl⟩ := hO.form; have HO := Lib.hid hO; have HB3 := Lib.hid hb3; clear hO hb3))
      | (go_at_call 110; (refine (del_c w2.heap.size w2 _ _ m r (prs M) hrm1 (by omega) HO.out HB3.out).mono ?_); rintro e w4 ⟨v, rfl, hO4, hb4⟩; obtain ⟨g4, c4, rfl⟩ := hO4.form; have HO4 := Lib.hid hO4; have HB4 := Lib.hid hb4; clear hO4 hb4)
      | fail)
  go_returns
  have hs2 := HB2.out.size
  have hb5 := below_trans HB2.out HB4.out
  refine ⟨_, rfl, ⟨_, rfl, ?_⟩, hb5.alloc hb5.size _⟩
  refine ⟨_, _, rfl, New.fresh hb5.size, blk_new _ _, ?_⟩
  rw [HDL.out, HD.out]
  exact (HO4.out.grown ((Below.refl _ _).alloc (Nat.le_refl _) _)).slk fun b hb => New.fresh (Nat.le_trans hs2 hb)
set_option maxRecDepth 100000 in
set_option maxHeartbeats 8000000 in
theorem ptake_none (K : Nat → Prop) (n : Nat) (p : Option Addr) (y bits zz : Int) (l i b : Nat) (g nn cp : Nat) (A : Option Addr) (cc : Nat → Option (List Value)) (k : ByteArray) (w : World) (hl : l ≤ 12) (hi : i < 32)
    (hg : w.heap[g]? = some (.cells #[.int .u32 (b : Int), .slice A nn cp, .slice none 0 0] NT (0, 0))) (hbb : b = bitsN (has cc) 32) (hrow : RowS K w (.slice A nn cp) cc)
    (HS : ∀ V, Calls Tryd.prog 33 #[mpv y bits n p, .string k] V (Ret (fun v _ => v = .int .u64 zz) V)) (HC : ∀ V, Calls Tryd.prog 78 #[.int .u64 zz, .int .i64 (l : Int)] V (Ret (fun v _ => v = .int .i64 (i : Int)) V))
    (HG : GetsV g b (.slice A nn cp) i w (slv ⟨#[]⟩ 0 none false)) :
    Calls Tryd.prog 80 #[mpv y bits n p, .pointer (some ⟨g, 0, none⟩), .int .i64 (l : Int), .string k] w (Ret (fun v w' => v = .tuple #[.pointer (some ⟨g, 0, none⟩), .bool false]) w) := by
  obtain ⟨⟨k0, k1, -⟩, -⟩ := box3 hg
  have hglt := blk_lt hg
  have P0 := blk_new w (.cells #[.int .u64 y, .int .i64 bits, .int .i64 (n : Int), .pointer p] MT)
  have hB0 : Below w.heap.size w (w.alloc (.cells #[.int .u64 y, .int .i64 bits, .int .i64 (n : Int), .pointer p] MT)) := (Below.refl w.heap.size w).alloc (Nat.le_refl _) _
  have hW1s : w.heap.size < (w.alloc (.cells #[.int .u64 y, .int .i64 bits, .int .i64 (n : Int), .pointer p] MT)).heap.size := by simp
  have hlI : (l : Int) < 13 := by omega
  have hl13 : ((l : Int) == 13) = false := beq_false_of_ne (by omega)
  have hws : IntKind.i64.wrap ((l : Int) + 1) = (l : Int) + 1 := by rw [IntKind.wrap_i64]; omega
  have HR := Lib.hid hrow; have HBB := Lib.hid hbb
  have HSS := Lib.hid HS; have HCC := Lib.hid HC; have HGG := Lib.hid (fun V (hw : Below w.heap.size w V) => HG V hw)
  clear hg hrow hbb HS HC HG
  go_enter Tryd.func80, Tryd.ntmps80
  go_wp2_with fail
  generalize w.alloc (.cells #[.int .u64 y, .int .i64 bits, .int .i64 (n : Int), .pointer p] MT) = W1 at P0 hB0 hW1s ⊢
  have k01 := cell_below k0 hB0
  have k11 := cell_below k1 hB0
  obtain ⟨⟨m0, m1, m2, m3⟩, -⟩ := box4 P0
  have HB0 := Lib.hid hB0
  have hs0 := hB0.size
  clear P0 hB0 k0 k1
  go_wp2_with (first
      | (go_at_call 33; ((with_reducible refine (HSS.out _).mono ?_); rintro e w2 ⟨v, rfl, rfl, hb2⟩; have hB2 : Below W1.heap.size W1 w2 := below_trans (by first | exact Below.refl _ _ | exact (Below.refl _ _).drew) hb2))
      | (go_at_call 78; ((with_reducible refine (HCC.out _).mono ?_); rintro e w3 ⟨v, rfl, rfl, hb3⟩; have hB3 : Below W1.heap.size W1 w3 := below_trans hB2 hb3; have k03 := cell_below k01 hB3; have k13 := cell_below k11 hB3))
      | (go_at_call 77; ((with_reducible refine (HGG.out _ (below_trans HB0.out hB3)).mono ?_); rintro e w4 ⟨v, rfl, rfl, hb4⟩; have hB4 : Below W1.heap.size W1 w4 := below_trans hB3 hb4; have k04 := cell_below k01 hB4; have k14 := cell_below k11 hB4; have m04 := cell_below m0 hB4; have m14 := cell_below m1 hB4; have m24 := cell_below m2 hB4; have m34 := cell_below m3 hB4; have hal := (fun o => (Below.refl w4.heap.size w4).alloc (Nat.le_refl _) o); have k05 := (fun o => cell_below k04 (hal o)); have k15 := (fun o => cell_below k14 (hal o)); have m05 := (fun o => cell_below m04 (hal o)); have m15 := (fun o => cell_below m14 (hal o)); have m25 := (fun o => cell_below m24 (hal o)); have m35 := (fun o => cell_below m34 (hal o)); have hs4 := hB4.size; have n41 : w4.heap.size ≠ g := (by omega); have n42 : w4.heap.size ≠ w.heap.size := (by omega)))
      | fail)
  go_returns
  have hb := below_trans HB0.out hB4
  exact ⟨_, rfl, rfl, hb.alloc hb.size _⟩
set_option maxRecDepth 100000 in
set_option maxHeartbeats 8000000 in
theorem ptake_other (K : Nat → Prop) (n : Nat) (p : Option Addr) (y bits zz : Int) (l i b : Nat) (g nn cp : Nat) (A : Option Addr) (cc : Nat → Option (List Value)) (k : ByteArray) (k0 : ByteArray) (x0 : Int) (w : World) (hl : l ≤ 12) (hi : i < 32)
    (hg : w.heap[g]? = some (.cells #[.int .u32 (b : Int), .slice A nn cp, .slice none 0 0] NT (0, 0))) (hbb : b = bitsN (has cc) 32) (hrow : RowS K w (.slice A nn cp) cc)
    (HS : ∀ V, Calls Tryd.prog 33 #[mpv y bits n p, .string k] V (Ret (fun v _ => v = .int .u64 zz) V)) (HC : ∀ V, Calls Tryd.prog 78 #[.int .u64 zz, .int .i64 (l : Int)] V (Ret (fun v _ => v = .int .i64 (i : Int)) V)) (hne : (k0.toList == k.toList) = false)
    (HG : GetsV g b (.slice A nn cp) i w (slv k0 x0 none true)) :
    Calls Tryd.prog 80 #[mpv y bits n p, .pointer (some ⟨g, 0, none⟩), .int .i64 (l : Int), .string k] w (Ret (fun v w' => v = .tuple #[.pointer (some ⟨g, 0, none⟩), .bool false]) w) := by
  obtain ⟨⟨k0, k1, -⟩, -⟩ := box3 hg
  have hglt := blk_lt hg
  have P0 := blk_new w (.cells #[.int .u64 y, .int .i64 bits, .int .i64 (n : Int), .pointer p] MT)
  have hB0 : Below w.heap.size w (w.alloc (.cells #[.int .u64 y, .int .i64 bits, .int .i64 (n : Int), .pointer p] MT)) := (Below.refl w.heap.size w).alloc (Nat.le_refl _) _
  have hW1s : w.heap.size < (w.alloc (.cells #[.int .u64 y, .int .i64 bits, .int .i64 (n : Int), .pointer p] MT)).heap.size := by simp
  have hlI : (l : Int) < 13 := by omega
  have hl13 : ((l : Int) == 13) = false := beq_false_of_ne (by omega)
  have hws : IntKind.i64.wrap ((l : Int) + 1) = (l : Int) + 1 := by rw [IntKind.wrap_i64]; omega
  have HR := Lib.hid hrow; have HBB := Lib.hid hbb
  have HSS := Lib.hid HS; have HCC := Lib.hid HC; have HGG := Lib.hid (fun V (hw : Below w.heap.size w V) => HG V hw)
  clear hg hrow hbb HS HC HG
  go_enter Tryd.func80, Tryd.ntmps80
  go_wp2_with fail
  generalize w.alloc (.cells #[.int .u64 y, .int .i64 bits, .int .i64 (n : Int), .pointer p] MT) = W1 at P0 hB0 hW1s ⊢
  have k01 := cell_below k0 hB0
  have k11 := cell_below k1 hB0
  obtain ⟨⟨m0, m1, m2, m3⟩, -⟩ := box4 P0
  have HB0 := Lib.hid hB0
  have hs0 := hB0.size
  clear P0 hB0 k0 k1
  go_wp2_with (first
      | (go_at_call 33; ((with_reducible refine (HSS.out _).mono ?_); rintro e w2 ⟨v, rfl, rfl, hb2⟩; have hB2 : Below W1.heap.size W1 w2 := below_trans (by first | exact Below.refl _ _ | exact (Below.refl _ _).drew) hb2))
      | (go_at_call 78; ((with_reducible refine (HCC.out _).mono ?_); rintro e w3 ⟨v, rfl, rfl, hb3⟩; have hB3 : Below W1.heap.size W1 w3 := below_trans hB2 hb3; have k03 := cell_below k01 hB3; have k13 := cell_below k11 hB3))
      | (go_at_call 77; ((with_reducible refine (HGG.out _ (below_trans HB0.out hB3)).mono ?_); rintro e w4 ⟨v, rfl, rfl, hb4⟩; have hB4 : Below W1.heap.size W1 w4 := below_trans hB3 hb4; have k04 := cell_below k01 hB4; have k14 := cell_below k11 hB4; have m04 := cell_below m0 hB4; have m14 := cell_below m1 hB4; have m24 := cell_below m2 hB4; have m34 := cell_below m3 hB4; have hal := (fun o => (Below.refl w4.heap.size w4).alloc (Nat.le_refl _) o); have k05 := (fun o => cell_below k04 (hal o)); have k15 := (fun o => cell_below k14 (hal o)); have m05 := (fun o => cell_below m04 (hal o)); have m15 := (fun o => cell_below m14 (hal o)); have m25 := (fun o => cell_below m24 (hal o)); have m35 := (fun o => cell_below m34 (hal o)); have hs4 := hB4.size; have n41 : w4.heap.size ≠ g := (by omega); have n42 : w4.heap.size ≠ w.heap.size := (by omega)))
      | fail)
  go_returns
  have hb := below_trans HB0.out hB4
  exact ⟨_, rfl, rfl, hb.alloc hb.size _⟩
set_option maxRecDepth 100000 in
set_option maxHeartbeats 8000000 in
theorem ptake_one (K : Nat → Prop) (n : Nat) (p : Option Addr) (y bits zz : Int) (l i b : Nat) (g nn cp : Nat) (A : Option Addr) (cc : Nat → Option (List Value)) (k : ByteArray) (x0 : Int) (w : World) (hl : l ≤ 12) (hi : i < 32)
    (hg : w.heap[g]? = some (.cells #[.int .u32 (b : Int), .slice A nn cp, .slice none 0 0] NT (0, 0))) (hbb : b = bitsN (has cc) 32) (hrow : RowS K w (.slice A nn cp) cc)
    (HS : ∀ V, Calls Tryd.prog 33 #[mpv y bits n p, .string k] V (Ret (fun v _ => v = .int .u64 zz) V)) (HC : ∀ V, Calls Tryd.prog 78 #[.int .u64 zz, .int .i64 (l : Int)] V (Ret (fun v _ => v = .int .i64 (i : Int)) V)) (hhas : has cc i = true)
    (HG : GetsV g b (.slice A nn cp) i w (slv k x0 none true)) :
    Calls Tryd.prog 80 #[mpv y bits n p, .pointer (some ⟨g, 0, none⟩), .int .i64 (l : Int), .string k] w (Ret (fun v w' => NodeZ K w cc i v w') w) := by
  have HRC := Lib.hid (fun V (hw : Below w.heap.size w V) => rcut_c K cc b i hbb hi (.slice A nn cp) V (hrow.below hw) hhas)
  obtain ⟨⟨k0, k1, -⟩, -⟩ := box3 hg
  have hglt := blk_lt hg
  have P0 := blk_new w (.cells #[.int .u64 y, .int .i64 bits, .int .i64 (n : Int), .pointer p] MT)
  have hB0 : Below w.heap.size w (w.alloc (.cells #[.int .u64 y, .int .i64 bits, .int .i64 (n : Int), .pointer p] MT)) := (Below.refl w.heap.size w).alloc (Nat.le_refl _) _
  have hW1s : w.heap.size < (w.alloc (.cells #[.int .u64 y, .int .i64 bits, .int .i64 (n : Int), .pointer p] MT)).heap.size := by simp
  have hlI : (l : Int) < 13 := by omega
  have hl13 : ((l : Int) == 13) = false := beq_false_of_ne (by omega)
  have hws : IntKind.i64.wrap ((l : Int) + 1) = (l : Int) + 1 := by rw [IntKind.wrap_i64]; omega
  have HR := Lib.hid hrow; have HBB := Lib.hid hbb
  have HSS := Lib.hid HS; have HCC := Lib.hid HC; have HGG := Lib.hid (fun V (hw : Below w.heap.size w V) => HG V hw)
  clear hg hrow hbb HS HC HG
  go_enter Tryd.func80, Tryd.ntmps80
  go_wp2_with fail
  generalize w.alloc (.cells #[.int .u64 y, .int .i64 bits, .int .i64 (n : Int), .pointer p] MT) = W1 at P0 hB0 hW1s ⊢
  have k01 := cell_below k0 hB0
  have k11 := cell_below k1 hB0
  obtain ⟨⟨m0, m1, m2, m3⟩, -⟩ := box4 P0
  have HB0 := Lib.hid hB0
  have hs0 := hB0.size
  clear P0 hB0 k0 k1
  go_wp2_with (first
      | (go_at_call 33; ((with_reducible refine (HSS.out _).mono ?_); rintro e w2 ⟨v, rfl, rfl, hb2⟩; have hB2 : Below W1.heap.size W1 w2 := below_trans (by first | exact Below.refl _ _ | exact (Below.refl _ _).drew) hb2))
      | (go_at_call 78; ((with_reducible refine (HCC.out _).mono ?_); rintro e w3 ⟨v, rfl, rfl, hb3⟩; have hB3 : Below W1.heap.size W1 w3 := below_trans hB2 hb3; have k03 := cell_below k01 hB3; have k13 := cell_below k11 hB3))
      | (go_at_call 77; ((with_reducible refine (HGG.out _ (below_trans HB0.out hB3)).mono ?_); rintro e w4 ⟨v, rfl, rfl, hb4⟩; have hB4 : Below W1.heap.size W1 w4 := below_trans hB3 hb4; have k04 := cell_below k01 hB4; have k14 := cell_below k11 hB4; have m04 := cell_below m0 hB4; have m14 := cell_below m1 hB4; have m24 := cell_below m2 hB4; have m34 := cell_below m3 hB4; have hal := (fun o => (Below.refl w4.heap.size w4).alloc (Nat.le_refl _) o); have k05 := (fun o => cell_below k04 (hal o)); have k15 := (fun o => cell_below k14 (hal o)); have m05 := (fun o => cell_below m04 (hal o)); have m15 := (fun o => cell_below m14 (hal o)); have m25 := (fun o => cell_below m24 (hal o)); have m35 := (fun o => cell_below m34 (hal o)); have hs4 := hB4.size; have n41 : w4.heap.size ≠ g := (by omega); have n42 : w4.heap.size ≠ w.heap.size := (by omega)))
      | (go_at_call 111; ((with_reducible refine (HRC.out _ (below_trans HB0.out (below_trans hB4 (hal _)))).mono ?_); rintro e w7 ⟨v, rfl, ⟨A7, n7, cp7, b7, rfl, hb7', hR7⟩, hb7⟩; have HB7 := Lib.hid (below_trans (below_trans HB0.out (below_trans hB4 (hal _))) hb7); have HB6 := Lib.hid (below_trans HB0.out (below_trans hB4 (hal (.cells #[.string k, .int .i64 x0, .pointer none] ST)))); have HR7 := Lib.hid hR7; have HE7 := Lib.hid hb7'; clear hR7 hb7' hb7))
      | fail)
  go_returns
  have h6s := HB6.out.size
  refine ⟨_, rfl, ⟨w7.heap.size, A7, n7, cp7, b7, rfl, HB7.out.size, blk_new w7 _, HE7.out, ?_⟩, HB7.out.alloc HB7.out.size _⟩
  refine (HR7.out.below ((Below.refl _ _).alloc (Nat.le_refl _) _)).keep (fun t ht _ => ?_) (fun _ _ _ => rfl)
  exact ht.imp id fun h => Nat.le_trans h6s h
set_option maxRecDepth 100000 in
set_option maxHeartbeats 8000000 in
theorem ptake_rec_no (K : Nat → Prop) (n : Nat) (p : Option Addr) (y bits zz : Int) (l i b : Nat) (g nn cp : Nat) (A : Option Addr) (cc : Nat → Option (List Value)) (k : ByteArray) (w : World) (hl : l ≤ 12) (hi : i < 32)
    (hg : w.heap[g]? = some (.cells #[.int .u32 (b : Int), .slice A nn cp, .slice none 0 0] NT (0, 0))) (hbb : b = bitsN (has cc) 32) (hrow : RowS K w (.slice A nn cp) cc)
    (HS : ∀ V, Calls Tryd.prog 33 #[mpv y bits n p, .string k] V (Ret (fun v _ => v = .int .u64 zz) V)) (HC : ∀ V, Calls Tryd.prog 78 #[.int .u64 zz, .int .i64 (l : Int)] V (Ret (fun v _ => v = .int .i64 (i : Int)) V))
    (c : Cf) (d : Nat) (M' : List Pr) (q0 : Option Addr) (hq0 : ∃ g0, q0 = some ⟨g0, 0, none⟩)
    (HF : ∀ V, Below w.heap.size w V → Calls Tryd.prog 80 #[mpv y bits n p, .pointer q0, .int .i64 ((l : Int) + 1), .string k] V (Ret (fun v w' => v = .tuple #[.pointer q0, .bool false]) V))
    (HG : GetsV g b (.slice A nn cp) i w (slv ⟨#[]⟩ 0 q0 true)) :
    Calls Tryd.prog 80 #[mpv y bits n p, .pointer (some ⟨g, 0, none⟩), .int .i64 (l : Int), .string k] w (Ret (fun v w' => v = .tuple #[.pointer (some ⟨g, 0, none⟩), .bool false]) w) := by
  obtain ⟨g0, rfl⟩ := hq0
  have HFF := Lib.hid HF; clear HF
  obtain ⟨⟨k0, k1, -⟩, -⟩ := box3 hg
  have hglt := blk_lt hg
  have P0 := blk_new w (.cells #[.int .u64 y, .int .i64 bits, .int .i64 (n : Int), .pointer p] MT)
  have hB0 : Below w.heap.size w (w.alloc (.cells #[.int .u64 y, .int .i64 bits, .int .i64 (n : Int), .pointer p] MT)) := (Below.refl w.heap.size w).alloc (Nat.le_refl _) _
  have hW1s : w.heap.size < (w.alloc (.cells #[.int .u64 y, .int .i64 bits, .int .i64 (n : Int), .pointer p] MT)).heap.size := by simp
  have hlI : (l : Int) < 13 := by omega
  have hl13 : ((l : Int) == 13) = false := beq_false_of_ne (by omega)
  have hws : IntKind.i64.wrap ((l : Int) + 1) = (l : Int) + 1 := by rw [IntKind.wrap_i64]; omega
  have HR := Lib.hid hrow; have HBB := Lib.hid hbb
  have HSS := Lib.hid HS; have HCC := Lib.hid HC; have HGG := Lib.hid (fun V (hw : Below w.heap.size w V) => HG V hw)
  clear hg hrow hbb HS HC HG
  go_enter Tryd.func80, Tryd.ntmps80
  go_wp2_with fail
  generalize w.alloc (.cells #[.int .u64 y, .int .i64 bits, .int .i64 (n : Int), .pointer p] MT) = W1 at P0 hB0 hW1s ⊢
  have k01 := cell_below k0 hB0
  have k11 := cell_below k1 hB0
  obtain ⟨⟨m0, m1, m2, m3⟩, -⟩ := box4 P0
  have HB0 := Lib.hid hB0
  have hs0 := hB0.size
  clear P0 hB0 k0 k1
  go_wp2_with (first
      | (go_at_call 33; ((with_reducible refine (HSS.out _).mono ?_); rintro e w2 ⟨v, rfl, rfl, hb2⟩; have hB2 : Below W1.heap.size W1 w2 := below_trans (by first | exact Below.refl _ _ | exact (Below.refl _ _).drew) hb2))
      | (go_at_call 78; ((with_reducible refine (HCC.out _).mono ?_); rintro e w3 ⟨v, rfl, rfl, hb3⟩; have hB3 : Below W1.heap.size W1 w3 := below_trans hB2 hb3; have k03 := cell_below k01 hB3; have k13 := cell_below k11 hB3))
      | (go_at_call 77; ((with_reducible refine (HGG.out _ (below_trans HB0.out hB3)).mono ?_); rintro e w4 ⟨v, rfl, rfl, hb4⟩; have hB4 : Below W1.heap.size W1 w4 := below_trans hB3 hb4; have k04 := cell_below k01 hB4; have k14 := cell_below k11 hB4; have m04 := cell_below m0 hB4; have m14 := cell_below m1 hB4; have m24 := cell_below m2 hB4; have m34 := cell_below m3 hB4; have hal := (fun o => (Below.refl w4.heap.size w4).alloc (Nat.le_refl _) o); have k05 := (fun o => cell_below k04 (hal o)); have k15 := (fun o => cell_below k14 (hal o)); have m05 := (fun o => cell_below m04 (hal o)); have m15 := (fun o => cell_below m14 (hal o)); have m25 := (fun o => cell_below m24 (hal o)); have m35 := (fun o => cell_below m34 (hal o)); have hs4 := hB4.size; have n41 : w4.heap.size ≠ g := (by omega); have n42 : w4.heap.size ≠ w.heap.size := (by omega)))
      | (go_at_call 80; ((with_reducible refine (HFF.out _ (below_trans HB0.out (below_trans hB4 (hal _)))).mono ?_); rintro e w5 ⟨v, rfl, rfl, hb5⟩; have HB5 := Lib.hid (below_trans (below_trans HB0.out (below_trans hB4 (hal _))) hb5); clear hb5))
      | fail)
  go_returns
  exact ⟨_, rfl, rfl, HB5.out⟩
set_option maxRecDepth 100000 in
set_option maxHeartbeats 8000000 in
theorem ptake_rec_lone (K : Nat → Prop) (n : Nat) (p : Option Addr) (y bits zz : Int) (l i b : Nat) (g nn cp : Nat) (A : Option Addr) (cc : Nat → Option (List Value)) (k : ByteArray) (k' : ByteArray) (x' : Int) (w : World) (hl : l ≤ 12) (hi : i < 32)
    (hg : w.heap[g]? = some (.cells #[.int .u32 (b : Int), .slice A nn cp, .slice none 0 0] NT (0, 0))) (hbb : b = bitsN (has cc) 32) (hrow : RowS K w (.slice A nn cp) cc)
    (HS : ∀ V, Calls Tryd.prog 33 #[mpv y bits n p, .string k] V (Ret (fun v _ => v = .int .u64 zz) V)) (HC : ∀ V, Calls Tryd.prog 78 #[.int .u64 zz, .int .i64 (l : Int)] V (Ret (fun v _ => v = .int .i64 (i : Int)) V))
    (c : Cf) (d : Nat) (M' : List Pr) (q0 : Option Addr) (hq0 : ∃ g0, q0 = some ⟨g0, 0, none⟩) (hT : Tab w)
    (HF : ∀ V, Below w.heap.size w V → Calls Tryd.prog 80 #[mpv y bits n p, .pointer q0, .int .i64 ((l : Int) + 1), .string k] V (Ret (fun v w' => ∃ q, v = .tuple #[.pointer q, .bool true] ∧ HRep c (New (fun b => K b ∧ b < w.heap.size) V) w' d q M') V))
    (HL : ∀ V q, HRep c (New K w) V d q M' → Tab V → Calls Tryd.prog 112 #[.pointer q] V (Ret (fun v _ => v = .tuple #[.agg #[.string k', .int .i64 x'], .bool true]) V))
    (HG : GetsV g b (.slice A nn cp) i w (slv ⟨#[]⟩ 0 q0 true)) :
    Calls Tryd.prog 80 #[mpv y bits n p, .pointer (some ⟨g, 0, none⟩), .int .i64 (l : Int), .string k] w (Ret (fun v w' => NodeR K w cc i (XP k' x') (fun _ _ => True) true v w') w) := by
  have HRS := Lib.hid (fun V (hw : Below w.heap.size w V) => rset_c K cc b i hbb hi (.slice A nn cp) k' x' none V (hrow.below hw))
  obtain ⟨g0, rfl⟩ := hq0
  have HFF := Lib.hid HF; clear HF
  have HLL := Lib.hid HL; clear HL
  have HT := Lib.hid hT; clear hT
  obtain ⟨⟨k0, k1, -⟩, -⟩ := box3 hg
  have hglt := blk_lt hg
  have P0 := blk_new w (.cells #[.int .u64 y, .int .i64 bits, .int .i64 (n : Int), .pointer p] MT)
  have hB0 : Below w.heap.size w (w.alloc (.cells #[.int .u64 y, .int .i64 bits, .int .i64 (n : Int), .pointer p] MT)) := (Below.refl w.heap.size w).alloc (Nat.le_refl _) _
  have hW1s : w.heap.size < (w.alloc (.cells #[.int .u64 y, .int .i64 bits, .int .i64 (n : Int), .pointer p] MT)).heap.size := by simp
  have hlI : (l : Int) < 13 := by omega
  have hl13 : ((l : Int) == 13) = false := beq_false_of_ne (by omega)
  have hws : IntKind.i64.wrap ((l : Int) + 1) = (l : Int) + 1 := by rw [IntKind.wrap_i64]; omega
  have HR := Lib.hid hrow; have HBB := Lib.hid hbb
  have HSS := Lib.hid HS; have HCC := Lib.hid HC; have HGG := Lib.hid (fun V (hw : Below w.heap.size w V) => HG V hw)
  clear hg hrow hbb HS HC HG
  go_enter Tryd.func80, Tryd.ntmps80
  go_wp2_with fail
  generalize w.alloc (.cells #[.int .u64 y, .int .i64 bits, .int .i64 (n : Int), .pointer p] MT) = W1 at P0 hB0 hW1s ⊢
  have k01 := cell_below k0 hB0
  have k11 := cell_below k1 hB0
  obtain ⟨⟨m0, m1, m2, m3⟩, -⟩ := box4 P0
  have HB0 := Lib.hid hB0
  have hs0 := hB0.size
  clear P0 hB0 k0 k1
  go_wp2_with (first
      | (go_at_call 33; ((with_reducible refine (HSS.out _).mono ?_); rintro e w2 ⟨v, rfl, rfl, hb2⟩; have hB2 : Below W1.heap.size W1 w2 := below_trans (by first | exact Below.refl _ _ | exact (Below.refl _ _).drew) hb2))
      | (go_at_call 78; ((with_reducible refine (HCC.out _).mono ?_); rintro e w3 ⟨v, rfl, rfl, hb3⟩; have hB3 : Below W1.heap.size W1 w3 := below_trans hB2 hb3; have k03 := cell_below k01 hB3; have k13 := cell_below k11 hB3))
      | (go_at_call 77; ((with_reducible refine (HGG.out _ (below_trans HB0.out hB3)).mono ?_); rintro e w4 ⟨v, rfl, rfl, hb4⟩; have hB4 : Below W1.heap.size W1 w4 := below_trans hB3 hb4; have k04 := cell_below k01 hB4; have k14 := cell_below k11 hB4; have m04 := cell_below m0 hB4; have m14 := cell_below m1 hB4; have m24 := cell_below m2 hB4; have m34 := cell_below m3 hB4; have hal := (fun o => (Below.refl w4.heap.size w4).alloc (Nat.le_refl _) o); have k05 := (fun o => cell_below k04 (hal o)); have k15 := (fun o => cell_below k14 (hal o)); have m05 := (fun o => cell_below m04 (hal o)); have m15 := (fun o => cell_below m14 (hal o)); have m25 := (fun o => cell_below m24 (hal o)); have m35 := (fun o => cell_below m34 (hal o)); have hs4 := hB4.size; have n41 : w4.heap.size ≠ g := (by omega); have n42 : w4.heap.size ≠ w.heap.size := (by omega)))
      | (go_at_call 80; ((with_reducible refine (HFF.out _ (below_trans HB0.out (below_trans hB4 (hal _)))).mono ?_); rintro e w5 ⟨v, rfl, ⟨q, rfl, hQ⟩, hb5⟩; have B5 := blk_below (blk_new w4 (.cells #[.string ⟨#[]⟩, .int .i64 0, .pointer (some ⟨g0, 0, none⟩)] ST)) hb5; obtain ⟨⟨z05, z15, z25⟩, fz0, fz1, fz2⟩ := box3 B5; have hb45 : Below w4.heap.size w4 w5 := below_trans (hal (.cells #[.string ⟨#[]⟩, .int .i64 0, .pointer (some ⟨g0, 0, none⟩)] ST)) hb5; have hKq : ∀ t, New (fun b => K b ∧ b < w.heap.size) (w4.alloc (.cells #[.string ⟨#[]⟩, .int .i64 0, .pointer (some ⟨g0, 0, none⟩)] ST)) t → t ≠ w4.heap.size ∧ New K w t := (fun t ht => (by rcases ht with ⟨h1, h2⟩ | h1 <;> first | exact ⟨by omega, Or.inl h1⟩ | (have h3 : (w4.alloc (.cells #[.string ⟨#[]⟩, .int .i64 0, .pointer (some ⟨g0, 0, none⟩)] ST)).heap.size ≤ t := h1; simp only [World.size_alloc] at h3; exact ⟨by omega, Or.inr (show w.heap.size ≤ t by omega)⟩))); have B5s : (w5.setCell ⟨w4.heap.size, 2, none⟩ (.pointer q)).heap[w4.heap.size]? = some (.cells #[.string ⟨#[]⟩, .int .i64 0, .pointer q] ST (0, 0)) := blk_put (cs := #[.string ⟨#[]⟩, .int .i64 0, .pointer (some ⟨g0, 0, none⟩)]) B5 2 (.pointer q) rfl; have hb45s : Below w4.heap.size w4 (w5.setCell ⟨w4.heap.size, 2, none⟩ (.pointer q)) := hb45.setCell (p := ⟨w4.heap.size, 2, none⟩) (Nat.le_refl w4.heap.size) _; have hQs : HRep c (New K w) (w5.setCell ⟨w4.heap.size, 2, none⟩ (.pointer q)) d q M' := hQ.keep (fun t ht _ => (hKq t ht).2) (fun t ht _ => heap_setCell_other _ _ _ _ (hKq t ht).1); have HTs := HT.out.below (below_trans HB0.out (below_trans hB4 hb45s))))
      | (go_at_call 112; ((with_reducible refine (HLL.out _ _ hQs HTs).mono ?_); rintro e w6 ⟨v, rfl, rfl, hb6⟩; have B6 := blk_below B5s hb6; have hb46 : Below w4.heap.size w4 w6 := below_trans hb45s hb6; have hQ6 := hQs.below hb6; have k06 := cell_below k04 hb46; have k16 := cell_below k14 hb46; obtain ⟨⟨z06, z16, z26⟩, fz06, fz16, fz26⟩ := box3 B6; have hs6 : w4.heap.size < w6.heap.size := blk_lt B6))
      | fail)
  have Z6 : ((((w6.setCell ⟨w4.heap.size, 0, none⟩ (.string k')).setCell ⟨w4.heap.size, 1, none⟩ (.int .i64 x')).setCell ⟨w4.heap.size, 2, none⟩ (.pointer none)).alloc (.cells #[.string k', .int .i64 x'] PT)).heap[w4.heap.size]? = some (.cells #[.string k', .int .i64 x', .pointer none] ST (0, 0)) := blk_alloc (put3 B6) _
  have hB6 : Below w4.heap.size w4 ((((w6.setCell ⟨w4.heap.size, 0, none⟩ (.string k')).setCell ⟨w4.heap.size, 1, none⟩ (.int .i64 x')).setCell ⟨w4.heap.size, 2, none⟩ (.pointer none)).alloc (.cells #[.string k', .int .i64 x'] PT)) := ((((hb46.setCell (p := ⟨w4.heap.size, 0, none⟩) (Nat.le_refl w4.heap.size) _).setCell (p := ⟨w4.heap.size, 1, none⟩) (Nat.le_refl w4.heap.size) _).setCell (p := ⟨w4.heap.size, 2, none⟩) (Nat.le_refl w4.heap.size) _).alloc (by simp only [World.size_setCell]; omega) _)
  have k07 := cell_below k04 hB6
  have k17 := cell_below k14 hB6
  have HB6 := Lib.hid (below_trans HB0.out (below_trans hB4 hB6))
  generalize ((((w6.setCell ⟨w4.heap.size, 0, none⟩ (.string k')).setCell ⟨w4.heap.size, 1, none⟩ (.int .i64 x')).setCell ⟨w4.heap.size, 2, none⟩ (.pointer none)).alloc (.cells #[.string k', .int .i64 x'] PT)) = W6 at Z6 HB6 k07 k17 ⊢
  obtain ⟨⟨z0, z1, z2⟩, -⟩ := box3 Z6
  clear Z6 hQ hQs hQ6 HTs hKq hB6 hb45 hb5 B5 B5s B6 hb45s hb46 hb6 z06 z16 z26 k06 k16 z05 z15 z25 fz0 fz1 fz2 fz06 fz16 fz26 hB2 hB3 hB4 hb2 hb3 hb4 k03 k13 k05 k15 m05 m15 m25 m35 hal k04 k14 m04 m14 m24 m34 k01 k11 m0 m1 m2 m3
  first
  | (go_region_with (first
      | (go_at_call 101; (with_reducible refine (HRS.out _ HB6.out.drew).mono ?_); rintro e w7 ⟨v, rfl, ⟨A7, n7, cp7, b7, rfl, hb7', hR7⟩, hb7⟩; have HB7 := Lib.hid (below_trans (w1 := W6.drew) (Below.refl W6.heap.size W6).drew hb7); have HR7 := Lib.hid hR7; have HE7 := Lib.hid hb7'; clear hR7 hb7' hb7)))
  | fail
  all_goals go_wp2_with fail
  all_goals
    go_returns
    have h6s := HB6.out.size
    have h67 := below_trans HB6.out HB7.out
    refine ⟨_, rfl, ⟨w7.heap.size, A7, n7, cp7, b7, none, rfl, h67.size, blk_new w7 _, HE7.out, ?_, trivial⟩, h67.alloc h67.size _⟩
    refine (HR7.out.below ((Below.refl _ _).alloc (Nat.le_refl _) _)).keep (fun t ht _ => ?_) (fun _ _ _ => rfl)
    exact ht.imp id fun h => Nat.le_trans h6s h
set_option maxRecDepth 100000 in
set_option maxHeartbeats 8000000 in
theorem ptake_rec (K : Nat → Prop) (n : Nat) (p : Option Addr) (y bits zz : Int) (l i b : Nat) (g nn cp : Nat) (A : Option Addr) (cc : Nat → Option (List Value)) (k : ByteArray) (w : World) (hl : l ≤ 12) (hi : i < 32)
    (hg : w.heap[g]? = some (.cells #[.int .u32 (b : Int), .slice A nn cp, .slice none 0 0] NT (0, 0))) (hbb : b = bitsN (has cc) 32) (hrow : RowS K w (.slice A nn cp) cc)
    (HS : ∀ V, Calls Tryd.prog 33 #[mpv y bits n p, .string k] V (Ret (fun v _ => v = .int .u64 zz) V)) (HC : ∀ V, Calls Tryd.prog 78 #[.int .u64 zz, .int .i64 (l : Int)] V (Ret (fun v _ => v = .int .i64 (i : Int)) V))
    (c : Cf) (d : Nat) (M' : List Pr) (q0 : Option Addr) (hq0 : ∃ g0, q0 = some ⟨g0, 0, none⟩) (hT : Tab w)
    (HF : ∀ V, Below w.heap.size w V → Calls Tryd.prog 80 #[mpv y bits n p, .pointer q0, .int .i64 ((l : Int) + 1), .string k] V (Ret (fun v w' => ∃ q, v = .tuple #[.pointer q, .bool true] ∧ HRep c (New (fun b => K b ∧ b < w.heap.size) V) w' d q M') V))
    (HL : ∀ V q, HRep c (New K w) V d q M' → Tab V → Calls Tryd.prog 112 #[.pointer q] V (Ret (fun v _ => ∃ (k' : ByteArray) (x' : Int), v = .tuple #[.agg #[.string k', .int .i64 x'], .bool false]) V))
    (HG : GetsV g b (.slice A nn cp) i w (slv ⟨#[]⟩ 0 q0 true)) :
    Calls Tryd.prog 80 #[mpv y bits n p, .pointer (some ⟨g, 0, none⟩), .int .i64 (l : Int), .string k] w (Ret (fun v w' => NodeR K w cc i XN (fun w' q => HRep c (New K w) w' d q M') true v w') w) := by
  have HRS := Lib.hid (fun (q : Option Addr) V (hw : Below w.heap.size w V) => rset_c K cc b i hbb hi (.slice A nn cp) ⟨#[]⟩ 0 q V (hrow.below hw))
  obtain ⟨g0, rfl⟩ := hq0
  have HFF := Lib.hid HF; clear HF
  have HLL := Lib.hid HL; clear HL
  have HT := Lib.hid hT; clear hT
  obtain ⟨⟨k0, k1, -⟩, -⟩ := box3 hg
  have hglt := blk_lt hg
  have P0 := blk_new w (.cells #[.int .u64 y, .int .i64 bits, .int .i64 (n : Int), .pointer p] MT)
  have hB0 : Below w.heap.size w (w.alloc (.cells #[.int .u64 y, .int .i64 bits, .int .i64 (n : Int), .pointer p] MT)) := (Below.refl w.heap.size w).alloc (Nat.le_refl _) _
  have hW1s : w.heap.size < (w.alloc (.cells #[.int .u64 y, .int .i64 bits, .int .i64 (n : Int), .pointer p] MT)).heap.size := by simp
  have hlI : (l : Int) < 13 := by omega
  have hl13 : ((l : Int) == 13) = false := beq_false_of_ne (by omega)
  have hws : IntKind.i64.wrap ((l : Int) + 1) = (l : Int) + 1 := by rw [IntKind.wrap_i64]; omega
  have HR := Lib.hid hrow; have HBB := Lib.hid hbb
  have HSS := Lib.hid HS; have HCC := Lib.hid HC; have HGG := Lib.hid (fun V (hw : Below w.heap.size w V) => HG V hw)
  clear hg hrow hbb HS HC HG
  go_enter Tryd.func80, Tryd.ntmps80
  go_wp2_with fail
  generalize w.alloc (.cells #[.int .u64 y, .int .i64 bits, .int .i64 (n : Int), .pointer p] MT) = W1 at P0 hB0 hW1s ⊢
  have k01 := cell_below k0 hB0
  have k11 := cell_below k1 hB0
  obtain ⟨⟨m0, m1, m2, m3⟩, -⟩ := box4 P0
  have HB0 := Lib.hid hB0
  have hs0 := hB0.size
  clear P0 hB0 k0 k1
  go_wp2_with (first
      | (go_at_call 33; ((with_reducible refine (HSS.out _).mono ?_); rintro e w2 ⟨v, rfl, rfl, hb2⟩; have hB2 : Below W1.heap.size W1 w2 := below_trans (by first | exact Below.refl _ _ | exact (Below.refl _ _).drew) hb2))
      | (go_at_call 78; ((with_reducible refine (HCC.out _).mono ?_); rintro e w3 ⟨v, rfl, rfl, hb3⟩; have hB3 : Below W1.heap.size W1 w3 := below_trans hB2 hb3; have k03 := cell_below k01 hB3; have k13 := cell_below k11 hB3))
      | (go_at_call 77; ((with_reducible refine (HGG.out _ (below_trans HB0.out hB3)).mono ?_); rintro e w4 ⟨v, rfl, rfl, hb4⟩; have hB4 : Below W1.heap.size W1 w4 := below_trans hB3 hb4; have k04 := cell_below k01 hB4; have k14 := cell_below k11 hB4; have m04 := cell_below m0 hB4; have m14 := cell_below m1 hB4; have m24 := cell_below m2 hB4; have m34 := cell_below m3 hB4; have hal := (fun o => (Below.refl w4.heap.size w4).alloc (Nat.le_refl _) o); have k05 := (fun o => cell_below k04 (hal o)); have k15 := (fun o => cell_below k14 (hal o)); have m05 := (fun o => cell_below m04 (hal o)); have m15 := (fun o => cell_below m14 (hal o)); have m25 := (fun o => cell_below m24 (hal o)); have m35 := (fun o => cell_below m34 (hal o)); have hs4 := hB4.size; have n41 : w4.heap.size ≠ g := (by omega); have n42 : w4.heap.size ≠ w.heap.size := (by omega)))
      | (go_at_call 80; ((with_reducible refine (HFF.out _ (below_trans HB0.out (below_trans hB4 (hal _)))).mono ?_); rintro e w5 ⟨v, rfl, ⟨q, rfl, hQ⟩, hb5⟩; have B5 := blk_below (blk_new w4 (.cells #[.string ⟨#[]⟩, .int .i64 0, .pointer (some ⟨g0, 0, none⟩)] ST)) hb5; obtain ⟨⟨z05, z15, z25⟩, fz0, fz1, fz2⟩ := box3 B5; have hb45 : Below w4.heap.size w4 w5 := below_trans (hal (.cells #[.string ⟨#[]⟩, .int .i64 0, .pointer (some ⟨g0, 0, none⟩)] ST)) hb5; have hKq : ∀ t, New (fun b => K b ∧ b < w.heap.size) (w4.alloc (.cells #[.string ⟨#[]⟩, .int .i64 0, .pointer (some ⟨g0, 0, none⟩)] ST)) t → t ≠ w4.heap.size ∧ New K w t := (fun t ht => (by rcases ht with ⟨h1, h2⟩ | h1 <;> first | exact ⟨by omega, Or.inl h1⟩ | (have h3 : (w4.alloc (.cells #[.string ⟨#[]⟩, .int .i64 0, .pointer (some ⟨g0, 0, none⟩)] ST)).heap.size ≤ t := h1; simp only [World.size_alloc] at h3; exact ⟨by omega, Or.inr (show w.heap.size ≤ t by omega)⟩))); have B5s : (w5.setCell ⟨w4.heap.size, 2, none⟩ (.pointer q)).heap[w4.heap.size]? = some (.cells #[.string ⟨#[]⟩, .int .i64 0, .pointer q] ST (0, 0)) := blk_put (cs := #[.string ⟨#[]⟩, .int .i64 0, .pointer (some ⟨g0, 0, none⟩)]) B5 2 (.pointer q) rfl; have hb45s : Below w4.heap.size w4 (w5.setCell ⟨w4.heap.size, 2, none⟩ (.pointer q)) := hb45.setCell (p := ⟨w4.heap.size, 2, none⟩) (Nat.le_refl w4.heap.size) _; have hQs : HRep c (New K w) (w5.setCell ⟨w4.heap.size, 2, none⟩ (.pointer q)) d q M' := hQ.keep (fun t ht _ => (hKq t ht).2) (fun t ht _ => heap_setCell_other _ _ _ _ (hKq t ht).1); have HTs := HT.out.below (below_trans HB0.out (below_trans hB4 hb45s))))
      | (go_at_call 112; ((with_reducible refine (HLL.out _ _ hQs HTs).mono ?_); rintro e w6 ⟨v, rfl, ⟨k', x', rfl⟩, hb6⟩; have B6 := blk_below B5s hb6; have hb46 : Below w4.heap.size w4 w6 := below_trans hb45s hb6; have hQ6 := hQs.below hb6; have k06 := cell_below k04 hb46; have k16 := cell_below k14 hb46; obtain ⟨⟨z06, z16, z26⟩, fz06, fz16, fz26⟩ := box3 B6; have hs6 : w4.heap.size < w6.heap.size := blk_lt B6))
      | fail)
  have Z6 : (w6.alloc (.cells #[.string k', .int .i64 x'] PT)).heap[w4.heap.size]? = some (.cells #[.string ⟨#[]⟩, .int .i64 0, .pointer q] ST (0, 0)) := blk_alloc B6 _
  have hB6 : Below w4.heap.size w4 (w6.alloc (.cells #[.string k', .int .i64 x'] PT)) := hb46.alloc (by omega) _
  have k07 := cell_below k04 hB6
  have k17 := cell_below k14 hB6
  have HB6 := Lib.hid (below_trans HB0.out (below_trans hB4 hB6))
  have hQ7 : HRep c (New K w) (w6.alloc (.cells #[.string k', .int .i64 x'] PT)) d q M' := hQ6.below ((Below.refl _ _).alloc (Nat.le_refl _) _)
  generalize (w6.alloc (.cells #[.string k', .int .i64 x'] PT)) = W6 at Z6 HB6 k07 k17 hQ7 ⊢
  obtain ⟨⟨z0, z1, z2⟩, -⟩ := box3 Z6
  have HQ6 := Lib.hid hQ7
  clear Z6 hQ hQs hQ6 HTs hKq hB6 hb45 hb5 B5 B5s B6 hb45s hb46 hb6 z06 z16 z26 k06 k16 z05 z15 z25 fz0 fz1 fz2 fz06 fz16 fz26 hQ7 hB2 hB3 hB4 hb2 hb3 hb4 k03 k13 k05 k15 m05 m15 m25 m35 hal k04 k14 m04 m14 m24 m34 k01 k11 m0 m1 m2 m3
  first
  | (go_region_with (first
      | (go_at_call 101; (with_reducible refine (HRS.out _ _ HB6.out.drew).mono ?_); rintro e w7 ⟨v, rfl, ⟨A7, n7, cp7, b7, rfl, hb7', hR7⟩, hb7⟩; have HB7 := Lib.hid (below_trans (w1 := W6.drew) (Below.refl W6.heap.size W6).drew hb7); have HR7 := Lib.hid hR7; have HE7 := Lib.hid hb7'; clear hR7 hb7' hb7)))
  | fail
  all_goals go_wp2_with fail
  all_goals
    go_returns
    have h6s := HB6.out.size
    have h67 := below_trans HB6.out HB7.out
    refine ⟨_, rfl, ⟨w7.heap.size, A7, n7, cp7, b7, q, rfl, h67.size, blk_new w7 _, HE7.out, ?_, HQ6.out.below (below_trans (w1 := w7) HB7.out ((Below.refl w7.heap.size w7).alloc (Nat.le_refl _) _))⟩, h67.alloc h67.size _⟩
    refine (HR7.out.below ((Below.refl _ _).alloc (Nat.le_refl _) _)).keep (fun t ht _ => ?_) (fun _ _ _ => rfl)
    exact ht.imp id fun h => Nat.le_trans h6s h
end Go.Proofs.YtnegblckbomgdaaDoor.Ht
end
section
namespace Go.Proofs.YtnegblckbomgdaaDoor.Ht
open Go Go.RowKit Go.Proofs.YtnegblckbomgdaaDoor.Mem Go.Proofs.YtnegblckbomgdaaDoor.PA Go.Proofs.YtnegblckbomgdaaDoorW.PrintWords Go.Proofs.YtnegblckbomgdaaDoor.U64
attribute [local go_sem ↓] Go.wp_at_zero Go.wp_at_succ
def TakeP (c : Cf) (d : Nat) : Prop := ∀ (K : Nat → Prop) (n : Nat) (p pn : Option Addr) (l : Nat) (M : List Pr) (k : ByteArray) (w : World), l + d = 13 → HRep c K w d pn M → Srt M → M.length ≤ 1000000 → k.size ≤ 1000000 → Tab w →
  (lkp M k = none → Calls Tryd.prog 80 #[mpv (U c.1) c.2 n p, .pointer pn, .int .i64 (l : Int), .string k] w (Ret (fun v w' => v = .tuple #[.pointer pn, .bool false]) w)) ∧
  (∀ z, lkp M k = some z → Calls Tryd.prog 80 #[mpv (U c.1) c.2 n p, .pointer pn, .int .i64 (l : Int), .string k] w (Ret (fun v w' => ∃ q, v = .tuple #[.pointer q, .bool true] ∧ HRep c (New K w) w' d q (del M k)) w))
theorem take_leaf (c : Cf) : TakeP c 0 := by
  intro K n p pn l M k w hl h hS hn hk hT
  obtain rfl : l = 13 := by omega
  obtain ⟨g, s, rfl, hKg, hg, hsl⟩ := h
  exact ⟨fun h => take_leaf_none c K n p g s M k w hg hsl hS hn _ _ h, fun z h => take_leaf_some c K n p g s M k w hg hsl hS hn _ _ z h⟩
theorem take_inner (c : Cf) (d : Nat) (ih : TakeP c d) : TakeP c (d + 1) := by
  intro K n p pn l M k w hl h hS hn hk hT
  have hl12 : l ≤ 12 := by omega
  have hdl : 12 - d = l := by omega
  obtain ⟨g, s, q, rfl, hKg, hg, hrow, hkids⟩ := h
  rw [hdl] at hg hrow hkids
  obtain ⟨A, nn, cp, rfl⟩ := row_form' hrow
  obtain ⟨i, hi⟩ : ∃ i, i = chk c l k := ⟨_, rfl⟩
  have hi32 : i < 32 := by rw [hi]; exact chk_lt _ _ _
  have HS := fun V => sum_c c n p k (by omega) V
  have HC := fun V => chunk_c c k l hl12 V
  rw [← hi] at HC
  have hgi : ∀ j, grp (chk c l) j (del M k) = if i = j then del (grp (chk c l) j M) k else grp (chk c l) j M := fun j => by rw [del_grp hS, hi]
  have hsame : ∀ j, j ≠ i → grp (chk c l) j (del M k) = grp (chk c l) j M := fun j hj => by rw [hgi, if_neg (fun e => hj e.symm)]
  have hII : grp (chk c l) i (del M k) = del (grp (chk c l) i M) k := by rw [hgi, if_pos rfl]
  have hlk : lkp (grp (chk c l) i M) k = lkp M k := by rw [hi, lkp_grp]
  have hSG : Srt (grp (chk c l) i M) := hS.grp _ _
  have hGl : (grp (chk c l) i M).length ≤ M.length := List.length_filter_le _ _
  have hcx : conts c l M q i = slotOf (grp (chk c l) i M) (q i) := rfl
  have hki := hkids i hi32
  have hGN := fun V (hw : Below w.heap.size w V) (hx : conts c l M q i = none) => get_none (conts c l M q) _ i rfl hi32 (.slice A nn cp) ⟨_, _, _, rfl⟩ V hx
  have hGS := fun k x q' V (hw : Below w.heap.size w V) (hx : conts c l M q i = some [.string k, .int .i64 x, .pointer q']) => get_some K (conts c l M q) _ i rfl hi32 (.slice A nn cp) k x q' V (hrow.below hw) hx
  rw [← hlk]
  generalize hGE : grp (chk c l) i M = G at hcx hki hII hlk hSG hGl
  match G with
  | [] =>
    refine ⟨fun _ => ptake_none K n p (U c.1) c.2 _ l i _ g nn cp A (conts c l M q) k w hl12 hi32 hg rfl hrow HS HC (fun V hw => hGN V hw hcx), fun z hz => ?_⟩
    cases hz
  | [e] =>
    refine ⟨fun hz => ?_, fun z hz => ?_⟩
    · have hek : ¬ e.1 = k := fun h => by rw [lkp_cons, if_pos h] at hz; cases hz
      exact ptake_other K n p (U c.1) c.2 _ l i _ g nn cp A (conts c l M q) k e.1 e.2 w hl12 hi32 hg rfl hrow HS HC (str_ne hek) (fun V hw => hGS _ _ _ V hw hcx)
    · have hek : e.1 = k := by
        by_cases h : e.1 = k
        · exact h
        · rw [lkp_cons, if_neg h] at hz; cases hz
      have hhas : has (conts c l M q) i = true := by unfold has; rw [hcx]; rfl
      refine ret_of (ptake_one K n p (U c.1) c.2 _ l i _ g nn cp A (conts c l M q) k e.2 w hl12 hi32 hg rfl hrow HS HC hhas (fun V hw => hGS _ _ _ V hw (by rw [hcx, ← hek]; rfl))) fun v w' hB h => ?_
      have e2 : grp (chk c l) i (del M k) = [] := by rw [hII]; unfold del; simp [hek]
      obtain ⟨g', A', n', cp', b', rfl, hg', hh, hb, hr⟩ := h
      have hc : put (conts c l M q) i none = conts c l (del M k) q := by
        funext j
        unfold conts put
        by_cases hj : j = i
        · subst hj
          rw [if_pos rfl]
          show none = slotOf (grp (chk c l) j (del M k)) (q j)
          rw [e2]; rfl
        · rw [if_neg hj]
          show slotOf (grp (chk c l) j M) (q j) = slotOf (grp (chk c l) j (del M k)) (q j)
          rw [hsame j hj]
      subst hb
      refine ⟨_, rfl, node_of l hdl hc hh (New.fresh hg') hr fun j hj h2 => ?_⟩
      by_cases hji : j = i
      · subst hji; rw [e2] at h2; simp at h2
      · rw [hsame j hji] at h2 ⊢
        exact ((hkids j hj h2).below hB).mono fun t ht => New.old ht
  | e1 :: e2 :: r =>
    have hq := hki (by simp)
    obtain ⟨g0, hq0, -, -⟩ := hq.ptr
    have hIH := fun V (hw : Below w.heap.size w V) => ih (fun b => K b ∧ b < w.heap.size) n p (q i) (l + 1) (e1 :: e2 :: r) k V (by omega) (hq.bound.below hw) hSG (Nat.le_trans hGl hn) hk (hT.below hw)
    rw [show ((l + 1 : Nat) : Int) = (l : Int) + 1 by push_cast; rfl] at hIH
    refine ⟨fun hz => ?_, fun z hz => ?_⟩
    · exact ptake_rec_no K n p (U c.1) c.2 _ l i _ g nn cp A (conts c l M q) k w hl12 hi32 hg rfl hrow HS HC c d [] (q i) ⟨g0, hq0⟩ (fun V hw => (hIH V hw).1 hz) (fun V hw => hGS _ _ _ V hw hcx)
    · have hdlen := del_length_some hSG hz
      have hM'ne : del (e1 :: e2 :: r) k ≠ [] := fun h => by rw [h] at hdlen; simp at hdlen
      have hL := fun V (q' : Option Addr) (hq' : HRep c (New K w) V d q' (del (e1 :: e2 :: r) k)) (hTV : Tab V) => lone_c c (New K w) d (by omega) q' _ hM'ne V hq' hTV
      have hF := fun V hw => (hIH V hw).2 z hz
      generalize hME : del (e1 :: e2 :: r) k = M' at hM'ne hL hF hII
      match M' with
      | [(k', x')] =>
        refine ret_of (ptake_rec_lone K n p (U c.1) c.2 _ l i _ g nn cp A (conts c l M q) k k' x' w hl12 hi32 hg rfl hrow HS HC c d [(k', x')] (q i) ⟨g0, hq0⟩ hT hF (fun V q' hq' hTV => ret_of (hL V q' hq' hTV) ?_) (fun V hw => hGS _ _ _ V hw hcx)) fun v w' hB h => ?_
        · rintro v w' hB ⟨a, b, o, rfl, h1, h2⟩
          cases o with
          | true =>
            have := h1 rfl
            injection this with this _
            injection this with e3 e4
            rw [e3, e4]
          | false => have := h2 rfl; simp at this
        · refine node_join hdl hB hkids hsame (fun q' => by rw [hII]; rfl) (fun q' _ h2 => ?_) h
          rw [hII] at h2; simp at h2
      | f1 :: f2 :: r' =>
        have h2' : 2 ≤ (f1 :: f2 :: r').length := by simp
        refine ret_of (ptake_rec K n p (U c.1) c.2 _ l i _ g nn cp A (conts c l M q) k w hl12 hi32 hg rfl hrow HS HC c d (f1 :: f2 :: r') (q i) ⟨g0, hq0⟩ hT hF (fun V q' hq' hTV => ret_of (hL V q' hq' hTV) ?_) (fun V hw => hGS _ _ _ V hw hcx)) fun v w' hB h => ?_
        · rintro v w' hB ⟨a, b, o, rfl, h1, h2⟩
          cases o with
          | true => have := h1 rfl; cases this
          | false => exact ⟨a, b, rfl⟩
        · refine node_join hdl hB hkids hsame (fun q' => by rw [hII]; rfl) (fun q' hq h2 => ?_) h
          rw [hII]; exact hq
theorem take_c (c : Cf) (d : Nat) : TakeP c d := by
  induction d with
  | zero => exact take_leaf c
  | succ d ih => exact take_inner c d ih
set_option maxRecDepth 100000 in
set_option maxHeartbeats 4000000 in
theorem mcut_nil (n : Nat) (y bits : Int) (k : ByteArray) (w : World) : Calls Tryd.prog 28 #[mpv y bits n none, .string k] w (Ret (fun v w' => v = mpv y bits n none) w) := by
  have B1 := heap_k1 w (.cells #[.int .u64 y, .int .i64 bits, .int .i64 (n : Int), .pointer none] MT) (.cells #[.int .u64 0, .int .i64 0, .int .i64 0, .pointer none] MT)
  have hB0 : Below w.heap.size w ((w.alloc (.cells #[.int .u64 y, .int .i64 bits, .int .i64 (n : Int), .pointer none] MT)).alloc (.cells #[.int .u64 0, .int .i64 0, .int .i64 0, .pointer none] MT)) := ((Below.refl w.heap.size w).alloc (Nat.le_refl _) _).alloc (by simp) _
  go_enter Tryd.func28, Tryd.ntmps28
  go_wp2_with fail
  refine bodyPost_ret (results_c1 rfl _ _ (w.heap.size + 1) MT #[.int .u64 y, .int .i64 bits, .int .i64 (n : Int), .pointer none] (0, 0) _ rfl (heap_k1 w _ _) Tryd.underlying30 rfl (by kernel_rfl)) rfl ?_
  exact ⟨_, rfl, rfl, ((Below.refl w.heap.size w).alloc (Nat.le_refl _) _).alloc (by simp) _⟩
set_option maxRecDepth 100000 in
set_option maxHeartbeats 4000000 in
theorem mcut_miss (c : Cf) (K : Nat → Prop) (n : Nat) (g : Nat) (y bits : Int) (L' : List Pr) (k : ByteArray) (w : World) (hn : n ≤ 1000000)
    (HP : ∀ V, Below w.heap.size w V → w.heap.size + 1 < V.heap.size → Calls Tryd.prog 80 #[mpv y bits n (some ⟨g, 0, none⟩), .pointer (some ⟨g, 0, none⟩), .int .i64 0, .string k] V (fun e w' => e = .returned (.tuple #[.pointer (some ⟨g, 0, none⟩), .bool false]) ∧ Below V.heap.size V w')) :
    Calls Tryd.prog 28 #[mpv y bits n (some ⟨g, 0, none⟩), .string k] w (Ret (fun v w' => v = mpv y bits n (some ⟨g, 0, none⟩)) w) := by
  have HPP := Lib.hid HP; clear HP
  have hws : IntKind.i64.wrap ((n : Int) - 1) = (n : Int) - 1 := by rw [IntKind.wrap_i64]; omega
  have B0 := blk_alloc (blk_new w (.cells #[.int .u64 y, .int .i64 bits, .int .i64 (n : Int), .pointer (some ⟨g, 0, none⟩)] MT)) (.cells #[.int .u64 0, .int .i64 0, .int .i64 0, .pointer none] MT)
  have B1 := heap_k1 w (.cells #[.int .u64 y, .int .i64 bits, .int .i64 (n : Int), .pointer (some ⟨g, 0, none⟩)] MT) (.cells #[.int .u64 0, .int .i64 0, .int .i64 0, .pointer none] MT)
  have hB0 : Below w.heap.size w ((w.alloc (.cells #[.int .u64 y, .int .i64 bits, .int .i64 (n : Int), .pointer (some ⟨g, 0, none⟩)] MT)).alloc (.cells #[.int .u64 0, .int .i64 0, .int .i64 0, .pointer none] MT)) := ((Below.refl w.heap.size w).alloc (Nat.le_refl _) _).alloc (by simp) _
  have hs0 : w.heap.size + 1 < ((w.alloc (.cells #[.int .u64 y, .int .i64 bits, .int .i64 (n : Int), .pointer (some ⟨g, 0, none⟩)] MT)).alloc (.cells #[.int .u64 0, .int .i64 0, .int .i64 0, .pointer none] MT)).heap.size := by simp
  have HB0 := Lib.hid B0; have HB1 := Lib.hid B1; have HBB := Lib.hid hB0; have HS0 := Lib.hid hs0
  clear B0 B1 hB0 hs0
  go_enter Tryd.func28, Tryd.ntmps28
  go_wp2_with (first
    | (go_at_call 80; ((with_reducible refine (HPP.out _ HBB.out HS0.out).mono ?_); rintro e w5 ⟨rfl, hb5⟩; have M5 := blk_below HB0.out hb5; have R5 := blk_below HB1.out hb5; obtain ⟨⟨m0, m1, m2, m3⟩, fm0, fm1, fm2, fm3⟩ := box4 M5; obtain ⟨⟨r0, r1, r2, r3⟩, fr0, fr1, fr2, fr3⟩ := box4 R5; have HB5 := Lib.hid (below_trans HBB.out hb5); have HM5 := Lib.hid M5; have HR5 := Lib.hid R5; clear M5 R5 hb5))
    | fail)
  refine bodyPost_ret (results_c1 rfl _ _ (w.heap.size + 1) MT #[.int .u64 y, .int .i64 bits, .int .i64 ((n : Int)), .pointer (some ⟨g, 0, none⟩)] (0, 0) _ rfl (put4 HR5.out) Tryd.underlying30 rfl (by kernel_rfl)) rfl ?_
  exact ⟨_, rfl, rfl, ((((HB5.out.setCell (p := ⟨w.heap.size + 1, 0, none⟩) (Nat.le_succ _) (.int .u64 y)).setCell (p := ⟨w.heap.size + 1, 1, none⟩) (Nat.le_succ _) (.int .i64 bits)).setCell (p := ⟨w.heap.size + 1, 2, none⟩) (Nat.le_succ _) (.int .i64 ((n : Int)))).setCell (p := ⟨w.heap.size + 1, 3, none⟩) (Nat.le_succ _) (.pointer (some ⟨g, 0, none⟩)))⟩
set_option maxRecDepth 100000 in
set_option maxHeartbeats 4000000 in
theorem mcut_hit (c : Cf) (K : Nat → Prop) (n : Nat) (g : Nat) (y bits : Int) (L' : List Pr) (k : ByteArray) (w : World) (hn : n ≤ 1000000)
    (HP : ∀ V, Below w.heap.size w V → w.heap.size + 1 < V.heap.size → Calls Tryd.prog 80 #[mpv y bits n (some ⟨g, 0, none⟩), .pointer (some ⟨g, 0, none⟩), .int .i64 0, .string k] V (fun e w' => ∃ q, e = .returned (.tuple #[.pointer q, .bool true]) ∧ HRep c (Kq K w) w' 13 q L' ∧ Below V.heap.size V w')) :
    Calls Tryd.prog 28 #[mpv y bits n (some ⟨g, 0, none⟩), .string k] w (Ret (fun v w' => ∃ q, v = .agg #[.int .u64 y, .int .i64 bits, .int .i64 ((n : Int) - 1), .pointer q] ∧ HRep c (New K w) w' 13 q L') w) := by
  have HPP := Lib.hid HP; clear HP
  have hws : IntKind.i64.wrap ((n : Int) - 1) = (n : Int) - 1 := by rw [IntKind.wrap_i64]; omega
  have B0 := blk_alloc (blk_new w (.cells #[.int .u64 y, .int .i64 bits, .int .i64 (n : Int), .pointer (some ⟨g, 0, none⟩)] MT)) (.cells #[.int .u64 0, .int .i64 0, .int .i64 0, .pointer none] MT)
  have B1 := heap_k1 w (.cells #[.int .u64 y, .int .i64 bits, .int .i64 (n : Int), .pointer (some ⟨g, 0, none⟩)] MT) (.cells #[.int .u64 0, .int .i64 0, .int .i64 0, .pointer none] MT)
  have hB0 : Below w.heap.size w ((w.alloc (.cells #[.int .u64 y, .int .i64 bits, .int .i64 (n : Int), .pointer (some ⟨g, 0, none⟩)] MT)).alloc (.cells #[.int .u64 0, .int .i64 0, .int .i64 0, .pointer none] MT)) := ((Below.refl w.heap.size w).alloc (Nat.le_refl _) _).alloc (by simp) _
  have hs0 : w.heap.size + 1 < ((w.alloc (.cells #[.int .u64 y, .int .i64 bits, .int .i64 (n : Int), .pointer (some ⟨g, 0, none⟩)] MT)).alloc (.cells #[.int .u64 0, .int .i64 0, .int .i64 0, .pointer none] MT)).heap.size := by simp
  have HB0 := Lib.hid B0; have HB1 := Lib.hid B1; have HBB := Lib.hid hB0; have HS0 := Lib.hid hs0
  clear B0 B1 hB0 hs0
  go_enter Tryd.func28, Tryd.ntmps28
  go_wp2_with (first
    | (go_at_call 80; ((with_reducible refine (HPP.out _ HBB.out HS0.out).mono ?_); rintro e w5 ⟨q, rfl, hQ, hb5⟩; have M5 := blk_below HB0.out hb5; have R5 := blk_below HB1.out hb5; obtain ⟨⟨m0, m1, m2, m3⟩, fm0, fm1, fm2, fm3⟩ := box4 M5; obtain ⟨⟨r0, r1, r2, r3⟩, fr0, fr1, fr2, fr3⟩ := box4 R5; have HB5 := Lib.hid (below_trans HBB.out hb5); have HM5 := Lib.hid M5; have HR5 := Lib.hid R5; clear M5 R5 hb5))
    | fail)
  refine bodyPost_ret (results_c1 rfl _ _ (w.heap.size + 1) MT #[.int .u64 y, .int .i64 bits, .int .i64 ((n : Int) - 1), .pointer q] (0, 0) _ rfl (put4 (blk_far (blk_far HR5.out (p := ⟨w.heap.size, 3, none⟩) (Nat.ne_of_gt (Nat.lt_succ_self _)) (.pointer q)) (p := ⟨w.heap.size, 2, none⟩) (Nat.ne_of_gt (Nat.lt_succ_self _)) (.int .i64 ((n : Int) - 1)))) Tryd.underlying30 rfl (by kernel_rfl)) rfl ?_
  exact ⟨_, rfl, ⟨q, rfl, rep_new (rep_set ⟨w.heap.size + 1, 3, none⟩ (.pointer q) (Or.inr rfl) (rep_set ⟨w.heap.size + 1, 2, none⟩ (.int .i64 ((n : Int) - 1)) (Or.inr rfl) (rep_set ⟨w.heap.size + 1, 1, none⟩ (.int .i64 bits) (Or.inr rfl) (rep_set ⟨w.heap.size + 1, 0, none⟩ (.int .u64 y) (Or.inr rfl) (rep_set ⟨w.heap.size, 2, none⟩ (.int .i64 ((n : Int) - 1)) (Or.inl rfl) (rep_set ⟨w.heap.size, 3, none⟩ (.pointer q) (Or.inl rfl) hQ))))))⟩, ((((((HB5.out.setCell (p := ⟨w.heap.size, 3, none⟩) (Nat.le_refl _) (.pointer q)).setCell (p := ⟨w.heap.size, 2, none⟩) (Nat.le_refl _) (.int .i64 ((n : Int) - 1))).setCell (p := ⟨w.heap.size + 1, 0, none⟩) (Nat.le_succ _) (.int .u64 y)).setCell (p := ⟨w.heap.size + 1, 1, none⟩) (Nat.le_succ _) (.int .i64 bits)).setCell (p := ⟨w.heap.size + 1, 2, none⟩) (Nat.le_succ _) (.int .i64 ((n : Int) - 1))).setCell (p := ⟨w.heap.size + 1, 3, none⟩) (Nat.le_succ _) (.pointer q))⟩
theorem mcut_c (c : Cf) (K : Nat → Prop) (v : Value) (L : List Pr) (k : ByteArray) (hk : k.size ≤ 1000000) (w : World) (h : MapV c K w v L) (hn : L.length ≤ 1000000) (hT : Tab w) :
    Calls Tryd.prog 28 #[v, .string k] w (Ret (fun v' w' => MapV c (New K w) w' v' (del L k)) w) := by
  have h0 := h
  obtain ⟨p, rfl, hR, hS, hSm⟩ := h
  rcases hR with ⟨rfl, rfl⟩ | hR
  · refine ret_of (mcut_nil 0 (U c.1) c.2 k w) fun v' w' hB h => ?_
    subst h
    exact ⟨none, rfl, Or.inl ⟨rfl, rfl⟩, srt_nil, fun e he => by cases he⟩
  · obtain ⟨g, hp, -, -⟩ := hR.ptr
    subst hp
    have HT := fun (V : World) (hw : Below w.heap.size w V) => take_c c 13 (fun b => K b ∧ b < w.heap.size) L.length (some ⟨g, 0, none⟩) (some ⟨g, 0, none⟩) 0 L k V rfl (hR.bound.below hw) hS hn hk (hT.below hw)
    cases hl : lkp L k with
    | none =>
      refine ret_of (mcut_miss c K L.length g (U c.1) c.2 [] k w hn fun V hw hs => ?_) fun v' w' hB h => ?_
      · refine ((HT V hw).1 hl).mono ?_
        rintro e w' ⟨v, rfl, rfl, hb⟩
        exact ⟨rfl, hb⟩
      · subst h
        rw [del_none hl]
        exact (h0.below hB).mono fun t ht => New.old ht
    | some z =>
      have hdl := del_length_some hS hl
      refine ret_of (mcut_hit c K L.length g (U c.1) c.2 (del L k) k w hn fun V hw hs => ?_) fun v' w' hB h => ?_
      · refine ((HT V hw).2 z hl).mono ?_
        rintro e w' ⟨v, rfl, ⟨q, rfl, hq⟩, hb⟩
        exact ⟨q, rfl, hq.mono fun t ht => ht.elim Or.inl fun h => Or.inr (by have : V.heap.size ≤ t := h; omega), hb⟩
      · obtain ⟨q, rfl, hq⟩ := h
        refine ⟨q, ?_, Or.inr hq, hS.del k, hSm.del k⟩
        rw [show (L.length : Int) - 1 = ((del L k).length : Int) by omega]
end Go.Proofs.YtnegblckbomgdaaDoor.Ht
end
section
namespace Go.Proofs.YtnegblckbomgdaaDoor.Ht
open Go Go.RowKit Go.Shelf Go.Proofs.YtnegblckbomgdaaDoor.Mem Go.Proofs.YtnegblckbomgdaaDoorW.PrintWords
attribute [local go_sem] Oper.semAt_some
theorem room_of_none {F : Fence} (hd : F.depth = none) (k : Nat) : F.room k := fun d h => by rw [hd] at h; cases h
theorem RoundIn.anyDepth {F : Fence} (hd : F.depth = none) {m m' : Nat} {P : Program} {l : Nat} {f : FuncId} {tmps : Array Value} {assign body : Code} {w : World} {R : Ending → World → Prop}
    (h : RoundIn F m P l f tmps assign body w R) : RoundIn F m' P l f tmps assign body w R := ⟨h.1, fun c cs _ => h.2 c cs (room_of_none hd _)⟩
theorem YieldAt.anyDepth {F : Fence} (hd : F.depth = none) {m : Nat} (m' : Nat) {P : Program} {l : Nat} {args : Array Value} {W : World} {R : Ending → World → Prop} (h : YieldAt F m P l args W R) : YieldAt F m' P l args W R := by
  obtain ⟨fn, tmps, assign, body, hy, hR⟩ := h
  exact ⟨fn, tmps, assign, body, hy, RoundIn.anyDepth hd hR⟩
def Kept (K : Nat → Prop) (w w' : World) : Prop := ∀ b, K b → w'.heap[b]? = w.heap[b]?
theorem Kept.refl (K : Nat → Prop) (w : World) : Kept K w w := fun _ _ => rfl
theorem Kept.trans {K : Nat → Prop} {a b c : World} (h : Kept K a b) (k : Kept K b c) : Kept K a c := fun x hx => (k x hx).trans (h x hx)
theorem Kept.lt {K : Nat → Prop} {w w' : World} (h : Kept K w w') {b : Nat} (hK : K b) (hb : b < w.heap.size) : b < w'.heap.size := by
  have h1 := h b hK
  rw [Array.getElem?_eq_getElem hb] at h1
  exact (Array.getElem?_eq_some_iff.1 h1).1
theorem hao (w : World) (o : Obj) (i : Nat) (h : i < w.heap.size) : (w.alloc o).heap[i]? = w.heap[i]? := by first | exact heap_alloc_old w o i h | exact heap_alloc_old w o h
theorem Kept.alloc {K : Nat → Prop} {w w' : World} (h : Kept K w w') (hK : ∀ b, K b → b < w.heap.size) (o : Obj) : Kept K w (w'.alloc o) := fun b hb => (hao w' o b (h.lt hb (hK b hb))).trans (h b hb)
theorem Kept.below {K : Nat → Prop} {w w1 w2 : World} (h : Kept K w w1) (hK : ∀ b, K b → b < w.heap.size) (hb : Below w1.heap.size w1 w2) : Kept K w w2 := fun b hx => (hb.block b (h.lt hx (hK b hx))).trans (h b hx)
theorem HRep.old {c : Cf} {K : Nat → Prop} {w w' : World} {d : Nat} {p : Option Addr} {L : List Pr} (h : HRep c K w d p L) (hb : Kept K w w') : HRep c K w' d p L := h.keep (fun _ h _ => h) fun b hk _ => hb b hk
theorem RowS.old {K : Nat → Prop} {w w' : World} {s : Value} {c : Nat → Option (List Value)} (h : RowS K w s c) (hb : Kept K w w') : RowS K w' s c := h.keep (fun _ h _ => h) fun b hk _ => hb b hk
theorem Tab.old {K : Nat → Prop} {w w' : World} (h : Tab w) (h0 : K 0) (hb : Kept K w w') : Tab w' := fun j hj => by rw [← h j hj]; exact World.cell?_of_block (hb 0 h0)
abbrev Sl := Int × ByteArray × Int × Option Addr
abbrev slotV (z : Sl) : Value := .agg #[.string z.2.1, .int .i64 z.2.2.1, .pointer z.2.2.2]
def Rounds (K : Nat → Prop) (l N : Nat) (Z : List Sl) (J Jx : List Sl → World → Prop) : Prop := ∀ m pre (x : Sl) W, x ∈ Z → J pre W → pre.length < N → YieldAt Fence.wide m Tryd.prog l #[.int .i64 x.1, slotV x] W fun e W' =>
  (e = .returned (.bool true) ∧ J (pre ++ [x]) W' ∧ Kept K W W') ∨ (e = .returned (.bool false) ∧ Jx (pre ++ [x]) W')
def AllP (J Jx : List Sl → World → Prop) (zs : List Sl) (e : Ending) (W' : World) : Prop :=
  (∃ v, e = .returned v) ∧ ((∃ ys, ys = zs ∧ J ys W') ∨ (∃ pre, pre <+: zs ∧ Jx pre W'))
def Slots (c : Nat → Option (List Value)) : Prop := ∀ i x, c i = some x → ∃ (k : ByteArray) (y : Int) (q : Option Addr), x = [.string k, .int .i64 y, .pointer q]
def zOf (i : Nat) : Option (List Value) → List Sl
  | some [.string k, .int _ y, .pointer q] => [((i : Int), k, y, q)]
  | _ => []
def zC (c : Nat → Option (List Value)) (a n : Nat) : List Sl := (List.range' a n).flatMap fun i => zOf i (c i)
theorem zC_add (c : Nat → Option (List Value)) (a m n : Nat) : zC c a (m + n) = zC c a m ++ zC c (a + m) n := by
  unfold zC
  rw [← List.flatMap_append, ← List.range'_append_1]
theorem zC_one (c : Nat → Option (List Value)) (a : Nat) : zC c a 1 = zOf a (c a) := by simp [zC]
theorem zC_none (c : Nat → Option (List Value)) (a : Nat) : ∀ n, (∀ i, a ≤ i → i < a + n → c i = none) → zC c a n = []
  | 0, _ => rfl
  | n + 1, h => by
    rw [zC_add, zC_none c a n fun i h1 h2 => h i h1 (by omega), zC_one, h (a + n) (by omega) (by omega)]; rfl
theorem zC_length {c : Nat → Option (List Value)} (hX : Slots c) (n : Nat) : (zC c 0 n).length = cnt (has c) n := by
  induction n with
  | zero => rfl
  | succ n ih =>
    rw [zC_add, List.length_append, ih, cnt_succ, Nat.zero_add, zC_one]
    unfold has
    cases hc : c n with
    | none => rfl
    | some x =>
      obtain ⟨k, y, q, rfl⟩ := hX n x hc
      rfl
def from_ (f : Nat → Bool) (p : Nat) : Nat → Bool := fun j => decide (p ≤ j) && f j
theorem from_zero (f : Nat → Bool) : from_ f 0 = f := by funext j; simp [from_]
theorem next (c : Nat → Option (List Value)) (p : Nat) (h : cnt (has c) p < cnt (has c) 32) : ∃ i x, p ≤ i ∧ i < 32 ∧ c i = some x ∧ (∀ j, p ≤ j → j < i → c j = none) ∧ cnt (has c) i = cnt (has c) p := by
  have hp : p < 32 := by
    rcases Nat.lt_or_ge p 32 with h1 | h1
    · exact h1
    · have := cnt_mono (has c) h1; omega
  have hex : ∃ i, i < 32 ∧ (p ≤ i ∧ c i ≠ none) := by
    by_cases hx : ∃ i, i < 32 ∧ (p ≤ i ∧ c i ≠ none)
    · exact hx
    · exfalso
      have : ∀ n, p + n ≤ 32 → cnt (has c) (p + n) = cnt (has c) p := by
        intro n
        induction n with
        | zero => intro _; rfl
        | succ n ih =>
          intro hn
          rw [show p + (n + 1) = p + n + 1 by omega, cnt_succ, ih (by omega)]
          have : has c (p + n) = false := by
            unfold has
            cases hc : c (p + n) with
            | none => rfl
            | some y => exact absurd ⟨p + n, by omega, by omega, by rw [hc]; simp⟩ hx
          rw [this]; simp
      have := this (32 - p) (by omega)
      rw [show p + (32 - p) = 32 by omega] at this
      omega
  obtain ⟨i, hi, ⟨hpi, hci⟩, hlo⟩ := least (fun i => inferInstanceAs (Decidable (p ≤ i ∧ c i ≠ none))) 32 hex
  obtain ⟨x, hx⟩ : ∃ x, c i = some x := by
    cases h : c i with
    | none => exact absurd h hci
    | some x => exact ⟨x, rfl⟩
  have hlo' : ∀ j, p ≤ j → j < i → c j = none := fun j h1 h2 => by
    have := hlo j h2
    cases h : c j with
    | none => rfl
    | some y => exact absurd ⟨h1, by rw [h]; simp⟩ this
  refine ⟨i, x, hpi, hi, hx, hlo', ?_⟩
  have : ∀ n, p + n ≤ i → cnt (has c) (p + n) = cnt (has c) p := by
    intro n
    induction n with
    | zero => intro _; rfl
    | succ n ih =>
      intro hn
      rw [show p + (n + 1) = p + n + 1 by omega, cnt_succ, ih (by omega)]
      have : has c (p + n) = false := by unfold has; rw [hlo' (p + n) (by omega) (by omega)]; rfl
      rw [this]; simp
  have := this (i - p) (by omega)
  rwa [show p + (i - p) = i by omega] at this
end Go.Proofs.YtnegblckbomgdaaDoor.Ht
end
section
namespace Go.Proofs.YtnegblckbomgdaaDoor.Ht
open Go Go.RowKit Go.Shelf Go.Proofs.YtnegblckbomgdaaDoor.Mem Go.Proofs.YtnegblckbomgdaaDoorW.PrintWords
attribute [local go_sem] Oper.semAt_some
theorem from_next (c : Nat → Option (List Value)) {p i : Nat} {x : List Value} (hpi : p ≤ i) (hx : c i = some x) (hlo : ∀ j, p ≤ j → j < i → c j = none) : off (from_ (has c) p) i = from_ (has c) (i + 1) := by
  funext j
  unfold off from_ has
  by_cases h1 : j = i
  · subst h1; simp; intro h; omega
  · by_cases h2 : i + 1 ≤ j
    · have h3 : p ≤ j := by omega
      simp [h1, h2, h3]
    · by_cases h3 : p ≤ j
      · rw [hlo j h3 (by omega)]; simp
      · have : ¬ (i + 1 ≤ j) := h2
        simp [h3, this]
theorem from_bit (c : Nat → Option (List Value)) {p i : Nat} {x : List Value} (hpi : p ≤ i) (hi : i < 32) (hx : c i = some x) (hlo : ∀ j, p ≤ j → j < i → c j = none) : Lib.ctz 32 (bitsN (from_ (has c) p) 32) = i ∧ bitsN (from_ (has c) p) 32 ≠ 0 := by
  have h1 : from_ (has c) p i = true := by simp [from_, has, hpi, hx]
  refine ⟨ctz_low _ hi h1 fun j hj => ?_, fun h0 => ?_⟩
  · by_cases h2 : p ≤ j
    · simp [from_, has, hlo j h2 hj]
    · simp [from_, h2]
  · have := bitsN_zero.1 h0 i hi
    rw [h1] at this; cases this
theorem zC_next (c : Nat → Option (List Value)) {p i : Nat} {k : ByteArray} {y : Int} {q : Option Addr} (hpi : p ≤ i) (hx : c i = some [.string k, .int .i64 y, .pointer q]) (hlo : ∀ j, p ≤ j → j < i → c j = none) : zC c 0 (i + 1) = zC c 0 p ++ [((i : Int), k, y, q)] := by
  obtain ⟨n, rfl⟩ : ∃ n, i = p + n := ⟨i - p, by omega⟩
  rw [show p + n + 1 = p + (n + 1) by omega, zC_add, Nat.zero_add, zC_add, zC_none c p n fun j h1 h2 => hlo j h1 h2, zC_one, hx]
  rfl
theorem zC_rest (c : Nat → Option (List Value)) {p : Nat} (hp : p ≤ 32) (h : cnt (has c) p = cnt (has c) 32) : zC c 0 p = zC c 0 32 := by
  have hall : ∀ j, p ≤ j → j < 32 → c j = none := fun j h1 h2 => by
    cases hc : c j with
    | none => rfl
    | some y =>
      have h3 : cnt (has c) j < cnt (has c) 32 := cnt_lt _ h2 (by simp [has, hc])
      have h4 := cnt_mono (has c) h1
      omega
  have : (32 : Nat) = p + (32 - p) := by omega
  rw [this, zC_add, Nat.zero_add, zC_none c p (32 - p) fun j h1 h2 => hall j h1 (by omega), List.append_nil]
def AllI (K : Nat → Prop) (c : Nat → Option (List Value)) (J : List Sl → World → Prop) (W : World) (v3 v12 : Value) (wr : World) : Prop :=
  ∃ p : Nat, p ≤ 32 ∧ v3 = .int .u32 (bitsN (from_ (has c) p) 32 : Int) ∧ v12 = .int .i64 (cnt (has c) p : Int) ∧ J (zC c 0 p) wr ∧ Kept K W wr
set_option maxRecDepth 100000 in
set_option maxHeartbeats 8000000 in
theorem hall1_c (K : Nat → Prop) (l Bn n N : Nat) (c : Nat → Option (List Value)) (s : Value) (J Jx : List Sl → World → Prop) (hY : Rounds K l N (zC c 0 32) J Jx) (W : World) (hT : Tab W) (hK0 : K 0) (hKB : K Bn) (hlt : ∀ b, K b → b < W.heap.size)
    (hbox : W.heap[Bn]? = some (.cells #[.int .u32 (bitsN (has c) 32 : Int), s] RWT (0, 0))) (hrow : RowS K W s c) (hX : Slots c) (h0 : J [] W) (hJs : ∀ pre W1 W2, J pre W1 → Below W1.heap.size W1 W2 → J pre W2) (hN : cnt (has c) 32 ≤ N) :
    CallsIn Fence.wide n Tryd.prog 120 #[.func (.yield l) #[] #[], .pointer (some ⟨Bn, 0, none⟩)] W (AllP J Jx (zC c 0 32)) := by
  obtain ⟨A, cp, rfl⟩ := hrow.1.form
  obtain ⟨m, hm⟩ : ∃ m, m = cnt (has c) 32 := ⟨_, rfl⟩
  have hm32 : m ≤ 32 := by rw [hm]; exact cnt_le _ _
  rw [← hm] at hbox
  have HBx := Lib.hid (fun wr (hB : Kept K W wr) => (hB Bn hKB).trans hbox)
  obtain ⟨⟨k0, k1⟩, -⟩ := box2 hbox
  have HROW := Lib.hid hrow; have HX := Lib.hid hX; have HY := Lib.hid hY; have HM := Lib.hid hm; have HLT := Lib.hid hlt
  have HT := Lib.hid (fun wr (hB : Kept K W wr) => hT.old hK0 hB)
  have HJ0 := Lib.hid h0; have HJS := Lib.hid hJs
  have hmI : (m : Int) ≤ 32 := by omega
  obtain ⟨b0, hb0⟩ : ∃ b0, b0 = bitsN (has c) 32 := ⟨_, rfl⟩
  rw [← hb0] at k0
  have HB0 := Lib.hid hb0
  clear hrow hX hY hm hlt hbox hT h0 hb0 hJs
  refine callsIn_of_wp Tryd.func120 rfl trivial ?_ rfl
  simp only [Tryd.ntmps120, List.size_toArray, List.length_cons, List.length_nil, Nat.reduceAdd, Nat.reduceSub, Array.replicate_succ, Array.replicate_zero, List.push_toArray, List.append_toArray, List.nil_append, List.cons_append]
  gi_wp2_with fail
  gi_loopw [3, 12] (fun v3 v12 wr => Hid (AllI K c J W v3 v12 wr)) (fun v3 v12 _ => m - (intOf v12).toNat)
  case atStart =>
    exact Lib.hid ⟨0, Nat.zero_le _, by rw [from_zero, ← HB0.out], rfl, HJ0.out, Kept.refl _ _⟩
  case round =>
    obtain ⟨p, hp, rfl, rfl, hJ, hB⟩ := hrel.out
    clear hrel
    obtain ⟨t, ht⟩ : ∃ t, t = cnt (has c) p := ⟨_, rfl⟩
    have htm : t ≤ m := by rw [ht, HM.out]; exact cnt_mono _ hp
    rw [← ht]
    by_cases hend : t = m
    · have HZ := Lib.hid (zC_rest c hp (by rw [← ht, hend, HM.out]))
      have HJ := Lib.hid hJ
      clear hJ ht
      subst hend
      gi_wp2
      go_end0
      exact ⟨⟨_, rfl⟩, .inl ⟨_, HZ.out, HJ.out⟩⟩
    · have htl : t < m := by omega
      obtain ⟨i, x, hpi, hi, hxi, hlo, hci⟩ := next c p (by rw [← ht, ← HM.out]; exact htl)
      obtain ⟨k, y, q, rfl⟩ := HX.out i x hxi
      obtain ⟨g, n', cp', he, hlt', hn', c0, c1, c2⟩ := (HROW.out.old hB).at hi hxi
      injection he with e1 e2 e3
      subst e1 e2 e3
      rw [hci, ← ht] at c0 c1 c2 hlt'
      obtain ⟨hz, hb0⟩ := from_bit c hpi hi hxi hlo
      obtain ⟨b, hb⟩ : ∃ b, b = bitsN (from_ (has c) p) 32 := ⟨_, rfl⟩
      have hbl : b < 4294967296 := by rw [hb]; exact bitsN_lt _ 32
      have HZ := Lib.hid (fun V (hw : Below wr.heap.size wr V) => tz_c b hbl (by rw [hb]; exact hb0) V ((HT.out wr hB).below hw))
      rw [hb, hz, ← hb] at HZ
      have hclr := clr_bit (from_ (has c) p) b i hb hi
      rw [from_next c hpi hxi hlo] at hclr
      have hzn := zC_next c hpi hxi hlo
      have hcn : cnt (has c) (i + 1) = t + 1 := by rw [cnt_succ, hci, ← ht]; simp [has, hxi]
      rw [← hb]
      have HCN := Lib.hid hcn; have HZN := Lib.hid hzn
      have hpre : (zC c 0 p).length < N := by rw [zC_length HX.out, ← ht]; have := HM.out; omega
      have hpf : zC c 0 (i + 1) <+: zC c 0 32 := ⟨zC c (i + 1) (32 - (i + 1)), by
        have h := zC_add c 0 (i + 1) (32 - (i + 1))
        rw [show i + 1 + (32 - (i + 1)) = 32 by omega, Nat.zero_add] at h
        exact h.symm⟩
      have HPF := Lib.hid hpf; have HPRE := Lib.hid hpre; have HJ := Lib.hid hJ; have HBK := Lib.hid hB
      clear hpf hpre hJ hcn hzn hb hz hb0 ht hlo hxi hB
      have htI : (t : Int) < (m : Int) := by omega
      have hi0 : (0 : Int) ≤ (i : Int) := by omega
      have hi32 : (i : Int) < 32 := by omega
      have hwi : IntKind.u64.wrap (i : Int) = (i : Int) := by rw [IntKind.wrap_u64]; omega
      gi_wp2_with fail
      refine ⟨trivial, fun h => (Bool.false_ne_true h).elim, (callsIn_wide.2 (HZ.out _ ((Below.refl _ _).alloc (Nat.le_refl _) _))).mono ?_⟩
      rintro e W3 ⟨v, rfl, rfl, hb3⟩
      have hB3 : Below wr.heap.size wr W3 := below_trans ((Below.refl _ _).alloc (Nat.le_refl _) _) hb3
      have BX := blk_below (blk_new wr (.cells #[.string k, .int .i64 y, .pointer q] ST)) hb3
      obtain ⟨⟨x0, x1, x2⟩, -⟩ := box3 BX
      have hJ3 := HJS.out _ _ _ HJ.out hB3
      obtain ⟨fn, tmps, assign, body, hy, hR⟩ := HY.out (n - 1) _ ((i : Int), k, y, q) W3 (by have h := HPF.out; rw [HZN.out] at h; exact h.subset (by simp)) hJ3 HPRE.out
      dsimp only at hy
      have HR := Lib.hid hR
      have HK3 := Lib.hid (HBK.out.below HLT.out hB3)
      clear hR hJ3 hb3 BX hB3 c0 c1 c2 k0 k1
      gi_wp2_with fail
      refine ⟨fun h => (Bool.false_ne_true h).elim, HR.out.mono ?_⟩
      rintro e W4 (⟨rfl, hJ4, hk4⟩ | ⟨rfl, hJx4⟩)
      · rw [← HZN.out] at hJ4
        have HJ4 := Lib.hid hJ4; have HK4 := Lib.hid (HK3.out.trans hk4)
        clear hJ4 hk4
        gi_wp2_with fail
        go_roundw
        case rel => exact Lib.hid ⟨i + 1, by omega, by first | rfl | rw [hclr], by rw [HCN.out]; first | rfl | (push_cast; rfl), HJ4.out, HK4.out⟩
        case measure => simp [intOf]; omega
      · rw [← HZN.out] at hJx4
        have HJ4 := Lib.hid hJx4
        clear hJx4
        gi_wp2_with fail
        go_end0
        exact ⟨⟨_, rfl⟩, .inr ⟨_, HPF.out, HJ4.out⟩⟩
end Go.Proofs.YtnegblckbomgdaaDoor.Ht
end
section
namespace Go.Proofs.YtnegblckbomgdaaDoor.Ht
open Go Go.RowKit Go.Shelf Go.Proofs.YtnegblckbomgdaaDoor.Mem Go.Proofs.YtnegblckbomgdaaDoorW.PrintWords
def Out (base Bo : Nat) (pre : List Pr) (W : World) : Prop := ∃ v, Boxed W Bo PLT v ∧ W.ownsRow base PT 2 v pre.length (prs pre) ∧ True
def Apt (base Bo : Nat) (W W' : World) : Prop := KeepsOthers W W' ∧ Below base W W' ∧ ∀ (b : Nat) cs (t : TypeId) fr, W.heap[b]? = some (.cells cs t fr) → t ≠ PT → b ≠ Bo → W'.heap[b]? = some (.cells cs t fr)
theorem Apt.refl (base Bo : Nat) (W : World) : Apt base Bo W W := ⟨KeepsOthers.refl W, Below.refl _ _, fun _ _ _ _ h _ _ => h⟩
theorem Apt.trans {base Bo : Nat} {A B C : World} (h : Apt base Bo A B) (k : Apt base Bo B C) : Apt base Bo A C := ⟨h.1.trans k.1, h.2.1.trans k.2.1, fun b cs t fr h1 h2 h3 => k.2.2 b cs t fr (h.2.2 b cs t fr h1 h2 h3) h2 h3⟩
theorem Apt.below {base Bo : Nat} {A B : World} (h : Below A.heap.size A B) (hk : KeepsOthers A B) (hb : base ≤ A.heap.size) : Apt base Bo A B := ⟨hk, h.mono hb, fun b cs t fr h1 _ _ => (h.block b (blk_lt h1)).trans h1⟩
theorem Apt.alloc {base Bo : Nat} {A B : World} (h : Apt base Bo A B) (hb : base ≤ B.heap.size) (o : Obj) : Apt base Bo A (B.alloc o) := h.trans ⟨KeepsOthers.alloc B o, (Below.refl base B).alloc hb o, fun b cs t fr h1 _ _ => (hao B o b (blk_lt h1)).trans h1⟩
set_option maxRecDepth 100000 in
set_option maxHeartbeats 4000000 in
theorem pairs1_c (base Bo : Nat) (pre : List Pr) (k : ByteArray) (x : Int) (W : World) (h : Out base Bo pre W) (hb : base ≤ Bo) (hn : pre.length ≤ 1000000) :
    Calls Tryd.prog 103 #[.agg #[.string k, .int .i64 x], .pointer (some ⟨Bo, 0, none⟩)] W (fun e W' => (∃ v, e = .returned v) ∧ Out base Bo (pre ++ [(k, x)]) W' ∧ Apt base Bo W W') := by
  obtain ⟨i0, hi, hz0, hz1, hz2⟩ := info_parts info_pair
  obtain ⟨v, hv, hrow, -⟩ := h
  have hc := hv.cell
  have hBW := hv.lt
  have HV := Lib.hid hv; have HROW := Lib.hid hrow
  have hc0 := (hv.alloc (.cells #[.string k, .int .i64 x] PT)).cell
  clear hv hrow
  have hbytes : (pre.length + 1) * 24 ≤ 140737488355328 := by omega
  have hm63 : pre.length + 1 ≤ maxLen := by unfold maxLen; omega
  obtain ⟨n, hnn⟩ : ∃ n, n = pre.length := ⟨_, rfl⟩
  rw [← hnn] at hbytes hm63 HROW
  go_enter Tryd.func103, Tryd.ntmps103
  go_wp2_with (at_builtin; refine wpList_append_own _ rfl _ _ PLT rfl base PT i0 _ 2 24 Tryd.underlying115 hi hz0 hz1 hz2 rfl (by decide) _ _ _ rfl ((HROW.out.alloc _).alloc _) ⟨W.heap.size + 1, 0, none⟩ 1 1 [.string k, .int .i64 x] rfl ?qc1 ?qc2 ?qc3 ?qc4 ?qc5 ?qc6 ?_)
  case qc1 => rfl
  case qc2 =>
    intro j u hj
    rw [add_head, blk_cell (heap_k1 W (.cells #[.string k, .int .i64 x] PT) (.cells #[.string k, .int .i64 x] PT))]
    simpa using hj
  case qc3 => intro u hu; simp at hu; rcases hu with rfl | rfl <;> rfl
  case qc4 => exact hm63
  case qc5 => exact hbytes
  case qc6 => simp; omega
  intro v' w1 hown' hgrow hnil
  obtain ⟨g', cap', rfl⟩ := ownsRow_succ hown'
  have hW1 : Boxed (W.alloc (.cells #[.string k, .int .i64 x] PT)) Bo PLT v := HV.out.alloc _
  obtain ⟨hv1, hv2, hr2, hk2, hb2⟩ := hW1.appended (by decide) (HROW.out.alloc _) (by simp; omega) hb hown' hgrow
  have hc1 := hv1.cell; have hf1 := hv1.frozen
  go_wp2_with fail
  go_end0
  refine ⟨⟨_, rfl⟩, ⟨_, hv2, ?_, trivial⟩, ⟨(KeepsOthers.alloc W _).trans hk2, ((Below.refl base W).alloc (by omega) _).trans hb2, fun b cs t fr h1 h2 h3 => ?_⟩⟩
  · have e1 : prs (pre ++ [(k, x)]) = prs pre ++ [.string k, .int .i64 x] := by rw [prs_append]; rfl
    subst hnn
    rw [e1, List.length_append]
    exact hr2
  · rw [Below.heap_setCell _ _ _ _ h3]
    have h4 : (W.alloc (.cells #[.string k, .int .i64 x] PT)).heap[b]? = some (.cells cs t fr) := (hao W _ b (blk_lt h1)).trans h1
    have h5 := (hao (W.alloc (.cells #[.string k, .int .i64 x] PT)) (.cells #[.string k, .int .i64 x] PT) b (blk_lt h4)).trans h4
    refine (hgrow.block b (blk_lt h5) ?_).trans h5
    rcases (HROW.out).2 with ⟨e, _⟩ | ⟨g, cap, cur, e, _, hgb, _⟩
    · subst e; simp [Value.ownBlock]
    · subst e
      intro e'
      obtain rfl : b = g := by simpa [Value.ownBlock] using e'
      rw [h1] at hgb
      injection hgb with hgb
      injection hgb with _ h6 _
      exact h2 h6
end Go.Proofs.YtnegblckbomgdaaDoor.Ht
end
