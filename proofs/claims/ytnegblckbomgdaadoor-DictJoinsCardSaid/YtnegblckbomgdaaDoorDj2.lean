/- Laws of the maps' code and of the words it uses, gathered out of the printed and own texts; no conditions. -/
import Derived.Test.YtnegblckbomgdaaDoorDj1
import Derived.Deep.DeepCutAuto
import Derived.Below
import Derived.Deep.Draws
import Derived.Deep.AppendLies
import Derived.Maps.AppendAt
import Derived.OwnWalk
import Derived.Laws.BytesArg
import Derived.Laws.MakeOwn
import Derived.Laws.OwnMore
import Derived.Deep.OwnRows
import Derived.Tactics
import Derived.Lib.ConvBytes
import Derived.Laws.Slices
import Derived.WalkKit
import Derived.KernelRfl
import Derived.RowKit3
import Derived.Deep.LoopGhost
import Derived.Deep.QuietTactic
import Derived.BigQuiet
import Derived.WideLaws
import Derived.Deep.CutBlock
import Derived.Deep.RegionHeld3
import Derived.Laws.Rows
import Derived.Lib.AppendStr
import Derived.ArgAppend
import Derived.Laws.IdiomCopy
import Derived.RowKit
import Derived.OrdersHeld
import Derived.Laws.BitsLemmas
import Derived.Laws.StructEq
import Derived.Test.YtnegblckbomgdaaDoorHs6
import Derived.Test.YtnegblckbomgdaaDoorHs7
set_option linter.unusedVariables false
set_option linter.unusedSimpArgs false
section
namespace Go.Proofs.YtnegblckbomgdaaDoor.Ht
open Go Go.RowKit Go.Shelf Go.Proofs.YtnegblckbomgdaaDoor.Mem Go.Proofs.YtnegblckbomgdaaDoor.PA Go.Proofs.YtnegblckbomgdaaDoorW.PrintWords Go.Proofs.YtnegblckbomgdaaDoor.U64 Go.Proofs.YtnegblckbomgdaaDoor
def KQ (r g : Nat) : Nat → Prop := fun x => x ≠ r ∧ x ≠ r + 1 ∧ x ≠ g ∧ x ≠ g + 1
def Qb (W : World) (r : Nat) (wr : World) : Prop :=
  wr.heap[r]? = some (.cells #[.int .u64 0, .int .i64 0, .int .i64 0, .pointer none] MT (0, 0)) ∧ wr.heap[r + 1]? = some (.cells #[.slice none 0 0, .slice none 0 0] RT (0, 0)) ∧ Below W.heap.size W wr
def MdI (c : Cf) (y b : Int) (W : World) (r g T k : Nat) (v14 : Value) (wr : World) (_u : Unit) : Prop :=
  ∃ (i : Nat) (n : Int) (p : Option Addr) (s t : Value) (L : List Pr), v14 = .int .i64 (i : Int) ∧ i + k = T ∧ L.length ≤ i ∧ TwK (KQ r g) c y b g n p s t L wr ∧ Qb W r wr
theorem twk_start (c : Cf) (y b : Int) (K : Nat → Prop) (hy : U c.1 = y) (hb : c.2 = b) (w3 : World) :
    TwK K c y b w3.heap.size 0 none (.slice none 0 0) (.slice none 0 0) [] ((w3.alloc (.cells #[.int .u64 y, .int .i64 b, .int .i64 0, .pointer none] MT)).alloc (.cells #[.slice none 0 0, .slice none 0 0] RT)) :=
  ⟨blk_alloc (blk_new w3 _) _, heap_k1 w3 _ _, ⟨none, by rw [← hy, ← hb]; rfl, Or.inl ⟨rfl, rfl⟩, srt_nil, fun e he => by cases he⟩, _, _, rfl, SlV.nil _ _, SlV.nil _ _⟩
def Made (c : Cf) (y b : Int) (N : Nat) (u : Value) (w : World) : Prop :=
  ∃ (L : List Pr) (n : Int) (p : Option Addr) (A1 : Option Addr) (n1 c1 : Nat) (A2 : Option Addr) (n2 c2 : Nat), u = .tuple #[.agg #[.int .u64 y, .int .i64 b, .int .i64 n, .pointer p], .agg #[.slice A1 n1 c1, .slice A2 n2 c2]] ∧ L.length ≤ N ∧
    MapV c (fun _ => True) w (.agg #[.int .u64 y, .int .i64 b, .int .i64 n, .pointer p]) L ∧ RefV (fun _ => True) w (.agg #[.slice A1 n1 c1, .slice A2 n2 c2]) L
theorem made_end {c : Cf} {y b : Int} {g r : Nat} {n : Int} {p : Option Addr} {A1 A2 : Option Addr} {n1 c1 n2 c2 : Nat} {L : List Pr} {V W : World} (h : TwK (KQ r g) c y b g n p (.slice A1 n1 c1) (.slice A2 n2 c2) L V) (hQ : Qb W r V) (hL : L.length ≤ 80) (hW : W.heap.size ≤ r) :
    (((put4w V r (.int .u64 y) (.int .i64 b) (.int .i64 n) (.pointer p)).setCell ⟨r + 1, 0, none⟩ (.slice A1 n1 c1)).setCell ⟨r + 1, 1, none⟩ (.slice A2 n2 c2)).drew.heap[r]? = some (.cells #[.int .u64 y, .int .i64 b, .int .i64 n, .pointer p] MT (0, 0)) ∧
    (((put4w V r (.int .u64 y) (.int .i64 b) (.int .i64 n) (.pointer p)).setCell ⟨r + 1, 0, none⟩ (.slice A1 n1 c1)).setCell ⟨r + 1, 1, none⟩ (.slice A2 n2 c2)).drew.heap[r + 1]? = some (.cells #[.slice A1 n1 c1, .slice A2 n2 c2] RT (0, 0)) ∧
    Made c y b 80 (.tuple #[.agg #[.int .u64 y, .int .i64 b, .int .i64 n, .pointer p], .agg #[.slice A1 n1 c1, .slice A2 n2 c2]]) (((put4w V r (.int .u64 y) (.int .i64 b) (.int .i64 n) (.pointer p)).setCell ⟨r + 1, 0, none⟩ (.slice A1 n1 c1)).setCell ⟨r + 1, 1, none⟩ (.slice A2 n2 c2)).drew ∧
    Below W.heap.size W (((put4w V r (.int .u64 y) (.int .i64 b) (.int .i64 n) (.pointer p)).setCell ⟨r + 1, 0, none⟩ (.slice A1 n1 c1)).setCell ⟨r + 1, 1, none⟩ (.slice A2 n2 c2)).drew := by
  have n0 : ¬ KQ r g r := fun h => h.1 rfl
  have n1' : ¬ KQ r g (r + 1) := fun h => h.2.1 rfl
  refine ⟨?_, ?_, ⟨L, n, p, A1, n1, c1, A2, n2, c2, rfl, hL, ?_, ?_⟩, ?_⟩
  · exact blk_drew <| blk_far (blk_far (put4 hQ.1) (p := ⟨r + 1, 0, none⟩) (show r ≠ r + 1 by omega) _) (p := ⟨r + 1, 1, none⟩) (show r ≠ r + 1 by omega) _
  · exact blk_drew <| put2 (blk_far (blk_far (blk_far (blk_far hQ.2.1 (p := ⟨r, 0, none⟩) (show r + 1 ≠ r by omega) _) (p := ⟨r, 1, none⟩) (show r + 1 ≠ r by omega) _) (p := ⟨r, 2, none⟩) (show r + 1 ≠ r by omega) _) (p := ⟨r, 3, none⟩) (show r + 1 ≠ r by omega) _)
  · exact ((mapv_far (mapv_far (mapv_far (mapv_far (mapv_far (mapv_far h.2.2.1 _ 0 _ n0) _ 1 _ n0) _ 2 _ n0) _ 3 _ n0) _ 0 _ n1') _ 1 _ n1').mono fun _ _ => trivial).below ((Below.refl _ _).drew)
  · exact ((refv_far (refv_far (refv_far (refv_far (refv_far (refv_far h.2.2.2 _ 0 _ n0) _ 1 _ n0) _ 2 _ n0) _ 3 _ n0) _ 0 _ n1') _ 1 _ n1').mono fun _ _ => trivial).below ((Below.refl _ _).drew)
  · exact (two_below hW hQ.2.2 (Below.refl _ _) (Below.refl _ _) _ _ _ _ _ _).drew
theorem qb_put {W V w1 w2 : World} {r g : Nat} (hg : r + 1 < g) (hW : W.heap.size ≤ r) (h : Qb W r V) (h1 : Below V.heap.size V w1) (h2 : Below w1.heap.size w1 w2) (a b c d e f : Value) :
    Qb W r (((put4w w2 g a b c d).setCell ⟨g + 1, 0, none⟩ e).setCell ⟨g + 1, 1, none⟩ f) :=
  have h12 := below_trans h1 h2
  ⟨blk_far (blk_far (blk_far (blk_far (blk_far (blk_far (blk_below h.1 h12) (p := ⟨g, 0, none⟩) (show r ≠ g by omega) _) (p := ⟨g, 1, none⟩) (show r ≠ g by omega) _) (p := ⟨g, 2, none⟩) (show r ≠ g by omega) _) (p := ⟨g, 3, none⟩) (show r ≠ g by omega) _) (p := ⟨g + 1, 0, none⟩) (show r ≠ g + 1 by omega) _) (p := ⟨g + 1, 1, none⟩) (show r ≠ g + 1 by omega) _,
   blk_far (blk_far (blk_far (blk_far (blk_far (blk_far (blk_below h.2.1 h12) (p := ⟨g, 0, none⟩) (show r + 1 ≠ g by omega) _) (p := ⟨g, 1, none⟩) (show r + 1 ≠ g by omega) _) (p := ⟨g, 2, none⟩) (show r + 1 ≠ g by omega) _) (p := ⟨g, 3, none⟩) (show r + 1 ≠ g by omega) _) (p := ⟨g + 1, 0, none⟩) (show r + 1 ≠ g + 1 by omega) _) (p := ⟨g + 1, 1, none⟩) (show r + 1 ≠ g + 1 by omega) _,
   two_below (by omega) h.2.2 h1 h2 _ _ _ _ _ _⟩
set_option maxRecDepth 100000 in
set_option maxHeartbeats 8000000 in
theorem made_w (c : Cf) (v : Value) (os : List S2) (y b : Int) (hy : U c.1 = y) (hb : c.2 = b) (W : World) (hO : PairsV W v os) (hl : os.length ≤ 80) (hk : ∀ o ∈ os, o.f0.size ≤ 200) :
    Calls Tryd.prog 38 #[.agg #[.int .u64 y, .int .i64 b], v] W (Ret (fun u w' => Made c y b 80 u w') W) := by
  obtain ⟨As, cs, rfl, -⟩ := id hO
  have HO := Lib.hid hO; have HK := Lib.hid hk; have HY := Lib.hid hy; have HBE := Lib.hid hb
  have HNW := Lib.hid (fun V => (show Calls Tryd.prog 19 #[.agg #[.int .u64 y, .int .i64 b]] V (Ret (fun v _ => v = .agg #[.int .u64 y, .int .i64 b, .int .i64 0, .pointer none]) V) from new_w y b V))
  obtain ⟨T, hTe⟩ : ∃ T, T = os.length := ⟨_, rfl⟩
  rw [← hTe] at HO hl ⊢
  have HTE := Lib.hid hTe
  clear hO hk hTe hy hb
  have hB0 := (((Below.refl W.heap.size W).alloc (Nat.le_refl _) (.cells #[.int .u64 y, .int .i64 b] CT)).alloc (by simp) (.cells #[.int .u64 0, .int .i64 0, .int .i64 0, .pointer none] MT)).alloc (by simp; omega) (.cells #[.slice none 0 0, .slice none 0 0] RT)
  have BC := blk_alloc (blk_alloc (blk_new W (.cells #[.int .u64 y, .int .i64 b] CT)) (.cells #[.int .u64 0, .int .i64 0, .int .i64 0, .pointer none] MT)) (.cells #[.slice none 0 0, .slice none 0 0] RT)
  have RB1 := blk_alloc (heap_k1 W (.cells #[.int .u64 y, .int .i64 b] CT) (.cells #[.int .u64 0, .int .i64 0, .int .i64 0, .pointer none] MT)) (.cells #[.slice none 0 0, .slice none 0 0] RT)
  have RB2 := heap_k2 W (.cells #[.int .u64 y, .int .i64 b] CT) (.cells #[.int .u64 0, .int .i64 0, .int .i64 0, .pointer none] MT) (.cells #[.slice none 0 0, .slice none 0 0] RT)
  have HB0 := Lib.hid hB0
  have HQ0 := Lib.hid (show Qb W (W.heap.size + 1) (((W.alloc (.cells #[.int .u64 y, .int .i64 b] CT)).alloc (.cells #[.int .u64 0, .int .i64 0, .int .i64 0, .pointer none] MT)).alloc (.cells #[.slice none 0 0, .slice none 0 0] RT)) from ⟨RB1, RB2, hB0⟩)
  obtain ⟨⟨a0, a1⟩, -⟩ := box2 BC
  have hr2 : W.heap.size + 1 + 1 < (((W.alloc (.cells #[.int .u64 y, .int .i64 b] CT)).alloc (.cells #[.int .u64 0, .int .i64 0, .int .i64 0, .pointer none] MT)).alloc (.cells #[.slice none 0 0, .slice none 0 0] RT)).heap.size := blk_lt RB2
  have HR2 := Lib.hid hr2
  clear hB0 BC RB1 RB2 hr2
  go_enter Tryd.func38, Tryd.ntmps38
  go_wp2_with (first
    | (go_at_call 19; ((with_reducible refine (HNW.out _).mono ?_); rintro e w3 ⟨v, rfl, rfl, hb3⟩; have HB3 := Lib.hid hb3; clear hb3))
    | fail)
  have hQ3 : Qb W (W.heap.size + 1) w3 := ⟨blk_below HQ0.out.1 HB3.out, blk_below HQ0.out.2.1 HB3.out, below_trans HB0.out HB3.out⟩
  have h3s := hQ3.2.2.size
  have hgw : W.heap.size + 1 + 1 < w3.heap.size := Nat.lt_of_lt_of_le HR2.out HB3.out.size
  have HQ4 := Lib.hid (show Qb W (W.heap.size + 1) ((w3.alloc (.cells #[.int .u64 y, .int .i64 b, .int .i64 0, .pointer none] MT)).alloc (.cells #[.slice none 0 0, .slice none 0 0] RT)) from ⟨blk_alloc (blk_alloc hQ3.1 _) _, blk_alloc (blk_alloc hQ3.2.1 _) _, (hQ3.2.2.alloc h3s (.cells #[.int .u64 y, .int .i64 b, .int .i64 0, .pointer none] MT)).alloc (by simp; omega) (.cells #[.slice none 0 0, .slice none 0 0] RT)⟩)
  have HW4 := Lib.hid (twk_start c y b (KQ (W.heap.size + 1) w3.heap.size) HY.out HBE.out w3)
  have hrW : W.heap.size ≤ W.heap.size + 1 := Nat.le_succ _
  clear a0 a1 hQ3 h3s HB3 HQ0 HB0 HR2
  generalize (w3.alloc (.cells #[.int .u64 y, .int .i64 b, .int .i64 0, .pointer none] MT)).alloc (.cells #[.slice none 0 0, .slice none 0 0] RT) = W4 at *
  generalize w3.heap.size = g at *
  generalize W.heap.size + 1 = r at HQ4 HW4 hgw hrW ⊢
  have HN0 := Lib.hid (show ¬ KQ r g g from fun h => h.2.2.1 rfl)
  have HN1 := Lib.hid (show ¬ KQ r g (g + 1) from fun h => h.2.2.2 rfl)
  go_loopg [14] T (fun k v14 wr => Aside (MdI c y b W r g T k v14 wr ()))
  case atStart =>
    show MdI _ _ _ _ _ _ _ _ _ _ _
    exact ⟨0, _, _, _, _, _, rfl, by omega, by simp, HW4.out, HQ4.out⟩
  case round =>
    obtain ⟨i, n, p, s, t, L, rfl, hiT, hLi, hTw, hQ⟩ := hrel.out
    clear hrel HW4 HQ4
    obtain ⟨A1, n1, c1, A2, n2, c2, rfl, rfl⟩ := hTw.form
    by_cases hlt : i < T
    · have hltI : (i : Int) < (T : Int) := by omega
      obtain ⟨o, ho⟩ : ∃ o, os[i]? = some o := ⟨_, List.getElem?_eq_getElem (by rw [← HTE.out]; exact hlt)⟩
      obtain ⟨ad, rfl, x0, x1⟩ := HO.out.at i o ho
      have x0 := cell_below x0 hQ.2.2
      have x1 := cell_below x1 hQ.2.2
      have hok := HK.out o (List.mem_of_getElem? ho)
      obtain ⟨gk, rfl⟩ : ∃ g, gk = g + 1 := ⟨gk - 1, by omega⟩
      have hBo := blk_new wr (.cells #[.string o.f0, .int .i64 o.f1] PPT)
      have hbl := (Below.refl wr.heap.size wr).alloc (Nat.le_refl _) (.cells #[.string o.f0, .int .i64 o.f1] PPT)
      have HT2 := Lib.hid (hTw.below hbl); have HQV := Lib.hid (show Qb W r (wr.alloc (.cells #[.string o.f0, .int .i64 o.f1] PPT)) from ⟨blk_below hQ.1 hbl, blk_below hQ.2.1 hbl, below_trans hQ.2.2 hbl⟩); have HBO := Lib.hid hBo
      have hLl : L.length ≤ 1000 := by omega
      have HSR := Lib.hid hTw.srt
      clear hTw hQ hBo hbl ho
      go_upto_region 6 with fail
      generalize wr.alloc (.cells #[.string o.f0, .int .i64 o.f1] PPT) = V at HT2 HQV HBO ⊢
      generalize wr.heap.size = gb at HBO ⊢
      have hr1 := blk_lt HQV.out.2.1
      have hg1 := blk_lt HT2.out.2.1
      have HNN := Lib.hid (show ∀ x, V.heap.size ≤ x → KQ r g x from fun x hx => ⟨by omega, by omega, by omega, by omega⟩)
      have HDO := Lib.hid (sets_mv HY.out HBE.out (HT2.out.2.2.1.below ((Below.refl V.heap.size V).drew)) hLl o.f0 o.f1 (Nat.le_trans hok (by decide)))
      have HSH := Lib.hid (fun V' (hV : Below V.heap.size V V') => rsets_mv HSR.out.1 HSR.out.2 HT2.out.2.2.2 hLl o.f0 o.f1 hV)
      obtain ⟨⟨q0, q1, q2, q3⟩, -⟩ := box4 HT2.out.1
      obtain ⟨⟨q4, q5⟩, -⟩ := box2 HT2.out.2.1
      obtain ⟨⟨o0, o1'⟩, -⟩ := box2 HBO.out
      have HFIN := Lib.hid (fun (w1 w2 : World) (n' : Int) (p' : Option Addr) (s' t' : Value) (h1 : Below V.heap.size V w1) (h2 : Below w1.heap.size w1 w2) => (qb_put (g := g) (by omega) hrW HQV.out h1 h2 (.int .u64 y) (.int .i64 b) (.int .i64 n') (.pointer p') s' t'))
      have HLN := Lib.hid (show (ins L o.f0 o.f1).length ≤ i + 1 from Nat.le_trans (ins_len L _ _ HSR.out.1) (by omega))
      clear x0 x1 hr1 hg1
      refine wp_region_noPanic ?_
      refine RegL.wp_region_late [12, 13] (fun (w' : World) => (w'.cell? ⟨g, 0, none⟩ = some (.int .u64 y) ∧ w'.cell? ⟨g, 1, none⟩ = some (.int .i64 b) ∧ w'.cell? ⟨g, 2, none⟩ = some (.int .i64 n) ∧ w'.cell? ⟨g, 3, none⟩ = some (.pointer p)) ∧ (w'.cell? ⟨g + 1, 0, none⟩ = some (.slice A1 n1 c1) ∧ w'.cell? ⟨g + 1, 1, none⟩ = some (.slice A2 n2 c2)) ∧ w'.cell? ⟨gb, 0, none⟩ = some (.string o.f0) ∧ w'.cell? ⟨gb, 1, none⟩ = some (.int .i64 o.f1)) (by kernel_rfl) ?_
      have hS0 : (fun (w' : World) => (w'.cell? ⟨g, 0, none⟩ = some (.int .u64 y) ∧ w'.cell? ⟨g, 1, none⟩ = some (.int .i64 b) ∧ w'.cell? ⟨g, 2, none⟩ = some (.int .i64 n) ∧ w'.cell? ⟨g, 3, none⟩ = some (.pointer p)) ∧ (w'.cell? ⟨g + 1, 0, none⟩ = some (.slice A1 n1 c1) ∧ w'.cell? ⟨g + 1, 1, none⟩ = some (.slice A2 n2 c2)) ∧ w'.cell? ⟨gb, 0, none⟩ = some (.string o.f0) ∧ w'.cell? ⟨gb, 1, none⟩ = some (.int .i64 o.f1)) V.drew := ⟨⟨q0, q1, q2, q3⟩, ⟨q4, q5⟩, o0, o1'⟩
      clear q0 q1 q2 q3 q4 q5 o0 o1'
      show RegL.wpAnyL _ _ _ _ _ _ 14 _ _ _
      refine RegL.wpAnyL_take (i := 0) (oi := ⟨some 18, Op.load 30 (Operand.tmp 6), _, _, _, _⟩) (v := ?vvr61) rfl (by kernel_rfl) (by kernel_rfl) (by kernel_rfl) (by kernel_rfl) (by kernel_rfl) (by kernel_rfl) (fun _ _ _ h => h) (Or.inl ⟨by rfl, ?hyr61⟩) hS0 ?restr61
      case hyr61 => ((intro w hSw; (try dsimp only at hSw); go_simp) <;> with_reducible rfl)
      try simp only [Act.put, List.setIfInBounds_toArray, List.set_cons_zero, List.set_cons_succ]
      refine RegL.wpAnyL_take (i := 1) (oi := ⟨some 19, Op.fieldAddr 133 (Operand.tmp 9) 0, _, _, _, _⟩) (v := ?vvr62) rfl (by kernel_rfl) (by kernel_rfl) (by kernel_rfl) (by kernel_rfl) (by kernel_rfl) (by kernel_rfl) (fun _ _ _ h => h) (Or.inl ⟨by rfl, ?hyr62⟩) hS0 ?restr62
      case hyr62 => ((intro w hSw; (try dsimp only at hSw); go_simp) <;> with_reducible rfl)
      try simp only [Act.put, List.setIfInBounds_toArray, List.set_cons_zero, List.set_cons_succ]
      refine RegL.wpAnyL_take (i := 2) (oi := ⟨some 20, Op.load 9 (Operand.tmp 19), _, _, _, _⟩) (v := ?vvr63) rfl (by kernel_rfl) (by kernel_rfl) (by kernel_rfl) (by kernel_rfl) (by kernel_rfl) (by kernel_rfl) (fun _ _ _ h => h) (Or.inl ⟨by rfl, ?hyr63⟩) hS0 ?restr63
      case hyr63 => ((intro w hSw; (try dsimp only at hSw); go_simp) <;> with_reducible rfl)
      try simp only [Act.put, List.setIfInBounds_toArray, List.set_cons_zero, List.set_cons_succ]
      refine RegL.wpAnyL_take (i := 3) (oi := ⟨some 21, Op.fieldAddr 133 (Operand.tmp 9) 1, _, _, _, _⟩) (v := ?vvr64) rfl (by kernel_rfl) (by kernel_rfl) (by kernel_rfl) (by kernel_rfl) (by kernel_rfl) (by kernel_rfl) (fun _ _ _ h => h) (Or.inl ⟨by rfl, ?hyr64⟩) hS0 ?restr64
      case hyr64 => ((intro w hSw; (try dsimp only at hSw); go_simp) <;> with_reducible rfl)
      try simp only [Act.put, List.setIfInBounds_toArray, List.set_cons_zero, List.set_cons_succ]
      refine RegL.wpAnyL_take (i := 4) (oi := ⟨some 22, Op.load 3 (Operand.tmp 21), _, _, _, _⟩) (v := ?vvr65) rfl (by kernel_rfl) (by kernel_rfl) (by kernel_rfl) (by kernel_rfl) (by kernel_rfl) (by kernel_rfl) (fun _ _ _ h => h) (Or.inl ⟨by rfl, ?hyr65⟩) hS0 ?restr65
      case hyr65 => ((intro w hSw; (try dsimp only at hSw); go_simp) <;> with_reducible rfl)
      try simp only [Act.put, List.setIfInBounds_toArray, List.set_cons_zero, List.set_cons_succ]
      refine RegL.wpAnyL_take (i := 6) (oi := ⟨some 24, Op.load 35 (Operand.tmp 7), _, _, _, _⟩) (v := ?vvr66) rfl (by kernel_rfl) (by kernel_rfl) (by kernel_rfl) (by kernel_rfl) (by kernel_rfl) (by kernel_rfl) (fun _ _ _ h => h) (Or.inl ⟨by rfl, ?hyr66⟩) hS0 ?restr66
      case hyr66 => ((intro w hSw; (try dsimp only at hSw); go_simp) <;> with_reducible rfl)
      try simp only [Act.put, List.setIfInBounds_toArray, List.set_cons_zero, List.set_cons_succ]
      refine RegL.wpAnyL_take (i := 7) (oi := ⟨some 25, Op.fieldAddr 133 (Operand.tmp 9) 0, _, _, _, _⟩) (v := ?vvr67) rfl (by kernel_rfl) (by kernel_rfl) (by kernel_rfl) (by kernel_rfl) (by kernel_rfl) (by kernel_rfl) (fun _ _ _ h => h) (Or.inl ⟨by rfl, ?hyr67⟩) hS0 ?restr67
      case hyr67 => ((intro w hSw; (try dsimp only at hSw); go_simp) <;> with_reducible rfl)
      try simp only [Act.put, List.setIfInBounds_toArray, List.set_cons_zero, List.set_cons_succ]
      refine RegL.wpAnyL_take (i := 8) (oi := ⟨some 26, Op.load 9 (Operand.tmp 25), _, _, _, _⟩) (v := ?vvr68) rfl (by kernel_rfl) (by kernel_rfl) (by kernel_rfl) (by kernel_rfl) (by kernel_rfl) (by kernel_rfl) (fun _ _ _ h => h) (Or.inl ⟨by rfl, ?hyr68⟩) hS0 ?restr68
      case hyr68 => ((intro w hSw; (try dsimp only at hSw); go_simp) <;> with_reducible rfl)
      try simp only [Act.put, List.setIfInBounds_toArray, List.set_cons_zero, List.set_cons_succ]
      refine RegL.wpAnyL_take (i := 9) (oi := ⟨some 27, Op.fieldAddr 133 (Operand.tmp 9) 1, _, _, _, _⟩) (v := ?vvr69) rfl (by kernel_rfl) (by kernel_rfl) (by kernel_rfl) (by kernel_rfl) (by kernel_rfl) (by kernel_rfl) (fun _ _ _ h => h) (Or.inl ⟨by rfl, ?hyr69⟩) hS0 ?restr69
      case hyr69 => ((intro w hSw; (try dsimp only at hSw); go_simp) <;> with_reducible rfl)
      try simp only [Act.put, List.setIfInBounds_toArray, List.set_cons_zero, List.set_cons_succ]
      refine RegL.wpAnyL_take (i := 10) (oi := ⟨some 28, Op.load 3 (Operand.tmp 27), _, _, _, _⟩) (v := ?vvr610) rfl (by kernel_rfl) (by kernel_rfl) (by kernel_rfl) (by kernel_rfl) (by kernel_rfl) (by kernel_rfl) (fun _ _ _ h => h) (Or.inl ⟨by rfl, ?hyr610⟩) hS0 ?restr610
      case hyr610 => ((intro w hSw; (try dsimp only at hSw); go_simp) <;> with_reducible rfl)
      try simp only [Act.put, List.setIfInBounds_toArray, List.set_cons_zero, List.set_cons_succ]
      refine RegL.wpAnyL_ready (rs := [5]) (by kernel_rfl) (by simp) ?_
      refine RegL.AllReadyL.calm (o := ⟨some 23, Op.call { callee := Callee.value (Operand.func 25), args := #[Operand.tmp 18, Operand.tmp 20, Operand.tmp 22], argTypes := #[30, 9, 3] }, _, _, _, _⟩) rfl (fun K hK => ?_) RegL.AllReadyL.nil
      go_simp
      refine (HDO.out).mono ?_
      rintro e w1 ⟨v, rfl, ⟨n', p', rfl, hm⟩, hb1⟩
      have HB1r := Lib.hid hb1; have HM := Lib.hid hm; have HB1 := Lib.hid (below_trans (w1 := World.drew V) (Below.refl _ _).drew hb1)
      clear hm hb1
      (try dsimp only)
      refine hK.out _ _ (⟨⟨cell_below hS0.1.1 HB1r.out, cell_below hS0.1.2.1 HB1r.out, cell_below hS0.1.2.2.1 HB1r.out, cell_below hS0.1.2.2.2 HB1r.out⟩, ⟨cell_below hS0.2.1.1 HB1r.out, cell_below hS0.2.1.2 HB1r.out⟩, cell_below hS0.2.2.1 HB1r.out, cell_below hS0.2.2.2 HB1r.out⟩) (fun hS0x => ?_)
      clear hK K
      try simp only [Act.put, List.setIfInBounds_toArray, List.set_cons_zero, List.set_cons_succ]
      refine RegL.wpAnyL_ready (rs := [11]) (by kernel_rfl) (by simp) ?_
      refine RegL.AllReadyL.calm (o := ⟨some 29, Op.call { callee := Callee.value (Operand.func 71), args := #[Operand.tmp 24, Operand.tmp 26, Operand.tmp 28], argTypes := #[35, 9, 3] }, _, _, _, _⟩) rfl (fun K hK => ?_) RegL.AllReadyL.nil
      go_simp
      refine (HSH.out _ HB1.out).mono ?_
      rintro e w2 ⟨v, rfl, ⟨A3, n3, c3, A4, n4, c4, rfl, hr⟩, hb2⟩
      have HR := Lib.hid hr; have HB2 := Lib.hid hb2
      clear hr hb2
      have HTW := Lib.hid (twk_put HT2.out HN0.out HN1.out HNN.out HB1.out HB2.out HM.out HR.out)
      obtain ⟨⟨e0, e1, e2, e3⟩, f0, f1, f2, f3⟩ := box4 (blk_below HT2.out.1 (below_trans HB1.out HB2.out))
      obtain ⟨⟨r0, r1⟩, fr0, fr1⟩ := box2 (blk_below HT2.out.2.1 (below_trans HB1.out HB2.out))
      (try dsimp only)
      refine hK.out _ _ (⟨⟨cell_below hS0x.1.1 HB2.out, cell_below hS0x.1.2.1 HB2.out, cell_below hS0x.1.2.2.1 HB2.out, cell_below hS0x.1.2.2.2 HB2.out⟩, ⟨cell_below hS0x.2.1.1 HB2.out, cell_below hS0x.2.1.2 HB2.out⟩, cell_below hS0x.2.2.1 HB2.out, cell_below hS0x.2.2.2 HB2.out⟩) (fun hS0xx => ?_)
      clear hK K
      try simp only [Act.put, List.setIfInBounds_toArray, List.set_cons_zero, List.set_cons_succ]
      refine RegL.wpAnyL_ready (rs := [12]) (by kernel_rfl) (by simp) ?_
      refine RegL.AllReadyL.late (o := ⟨none, Op.store 30 (Operand.tmp 6) (Operand.tmp 23), _, _, _, _⟩) rfl (by kernel_rfl) (fun K hK => ?_) RegL.AllReadyL.nil
      go_simp
      refine hK.out _ _ ?_
      clear hK K
      try simp only [Act.put, List.setIfInBounds_toArray, List.set_cons_zero, List.set_cons_succ]
      refine RegL.wpAnyL_ready (rs := [13]) (by kernel_rfl) (by simp) ?_
      refine RegL.AllReadyL.late (o := ⟨none, Op.store 35 (Operand.tmp 7) (Operand.tmp 29), _, _, _, _⟩) rfl (by kernel_rfl) (fun K hK => ?_) RegL.AllReadyL.nil
      go_simp
      refine hK.out _ _ ?_
      clear hK K
      try simp only [Act.put, List.setIfInBounds_toArray, List.set_cons_zero, List.set_cons_succ]
      refine RegL.wpAnyL_done (by kernel_rfl) ?_ _
      refine NoPanic.normal ?_
      (go_wp2_with fail)
      go_roundg gk
      case measure => omega
      case rel =>
        show MdI _ _ _ _ _ _ _ _ _ _ _
        exact ⟨i + 1, _, _, _, _, _, by first | rfl | (push_cast; rfl), by omega, HLN.out, HTW.out, HFIN.out _ _ _ _ _ _ HB1.out HB2.out⟩
    · have hl' : L.length ≤ 80 := by omega
      have hne1 : ¬ r = g + 1 := by omega
      have hne2 : ¬ g + 1 = r := by omega
      have hne3 : ¬ r = g := by omega
      have hne4 : ¬ g = r := by omega
      have HT2 := Lib.hid hTw; have HQV := Lib.hid hQ
      have HE := Lib.hid (made_end HT2.out HQV.out hl' hrW)
      clear hTw hQ
      go_upto_region 8 with fail
      obtain ⟨⟨q0, q1, q2, q3⟩, -⟩ := box4 HT2.out.1
      obtain ⟨⟨q4, q5⟩, -⟩ := box2 HT2.out.2.1
      obtain ⟨⟨e0, e1, e2, e3⟩, f0, f1, f2, f3⟩ := box4 HQV.out.1
      obtain ⟨⟨r0, r1⟩, fr0, fr1⟩ := box2 HQV.out.2.1
      refine wp_region_noPanic ?_
      refine RegL.wp_region_late [2, 3] (fun (w' : World) => (w'.cell? ⟨g, 0, none⟩ = some (.int .u64 y) ∧ w'.cell? ⟨g, 1, none⟩ = some (.int .i64 b) ∧ w'.cell? ⟨g, 2, none⟩ = some (.int .i64 n) ∧ w'.cell? ⟨g, 3, none⟩ = some (.pointer p)) ∧ (w'.cell? ⟨g + 1, 0, none⟩ = some (.slice A1 n1 c1) ∧ w'.cell? ⟨g + 1, 1, none⟩ = some (.slice A2 n2 c2))) (by kernel_rfl) ?_
      have hS0 : (fun (w' : World) => (w'.cell? ⟨g, 0, none⟩ = some (.int .u64 y) ∧ w'.cell? ⟨g, 1, none⟩ = some (.int .i64 b) ∧ w'.cell? ⟨g, 2, none⟩ = some (.int .i64 n) ∧ w'.cell? ⟨g, 3, none⟩ = some (.pointer p)) ∧ (w'.cell? ⟨g + 1, 0, none⟩ = some (.slice A1 n1 c1) ∧ w'.cell? ⟨g + 1, 1, none⟩ = some (.slice A2 n2 c2))) wr.drew := ⟨⟨q0, q1, q2, q3⟩, ⟨q4, q5⟩⟩
      show RegL.wpAnyL _ _ _ _ _ _ 4 _ _ _
      refine RegL.wpAnyL_take (i := 0) (oi := ⟨some 31, Op.load 30 (Operand.tmp 6), _, _, _, _⟩) (v := ?vvr81) rfl (by kernel_rfl) (by kernel_rfl) (by kernel_rfl) (by kernel_rfl) (by kernel_rfl) (by kernel_rfl) (fun _ _ _ h => h) (Or.inl ⟨by rfl, ?hyr81⟩) hS0 ?restr81
      case hyr81 => ((intro w hSw; (try dsimp only at hSw); go_simp) <;> with_reducible rfl)
      try simp only [Act.put, List.setIfInBounds_toArray, List.set_cons_zero, List.set_cons_succ]
      refine RegL.wpAnyL_ready (rs := [1, 2]) (by kernel_rfl) (by simp) ?_
      refine RegL.AllReadyL.calm (o := ⟨some 32, Op.load 35 (Operand.tmp 7), _, _, _, _⟩) rfl (fun K hK => ?_) ?_
      · go_simp
        refine hK.out _ _ (hS0) (fun hS0x => ?_)
        clear hK K
        try simp only [Act.put, List.setIfInBounds_toArray, List.set_cons_zero, List.set_cons_succ]
        refine RegL.wpAnyL_ready (rs := [2]) (by kernel_rfl) (by simp) ?_
        refine RegL.AllReadyL.late (o := ⟨none, Op.store 30 (Operand.tmp 4) (Operand.tmp 31), _, _, _, _⟩) rfl (by kernel_rfl) (fun K hK => ?_) RegL.AllReadyL.nil
        go_simp
        refine hK.out _ _ ?_
        clear hK K
        try simp only [Act.put, List.setIfInBounds_toArray, List.set_cons_zero, List.set_cons_succ]
        refine RegL.wpAnyL_ready (rs := [3]) (by kernel_rfl) (by simp) ?_
        refine RegL.AllReadyL.late (o := ⟨none, Op.store 35 (Operand.tmp 5) (Operand.tmp 32), _, _, _, _⟩) rfl (by kernel_rfl) (fun K hK => ?_) RegL.AllReadyL.nil
        go_simp
        refine hK.out _ _ ?_
        clear hK K
        try simp only [Act.put, List.setIfInBounds_toArray, List.set_cons_zero, List.set_cons_succ]
        refine RegL.wpAnyL_done (by kernel_rfl) ?_ _
        refine NoPanic.normal ?_
        (go_wp2_with fail)
        refine bodyPost_ret (results_cc rfl _ _ r (r + 1) MT RT #[.int .u64 y, .int .i64 b, .int .i64 n, .pointer p] #[.slice A1 n1 c1, .slice A2 n2 c2] (0, 0) (0, 0) _ _ rfl rfl HE.out.1 HE.out.2.1 Tryd.underlying30 rfl (by kernel_rfl) Tryd.underlying35 rfl (by kernel_rfl)) rfl ?_
        exact ⟨_, rfl, HE.out.2.2.1, HE.out.2.2.2⟩
      refine RegL.AllReadyL.late (o := ⟨none, Op.store 30 (Operand.tmp 4) (Operand.tmp 31), _, _, _, _⟩) rfl (by kernel_rfl) (fun K hK => ?_) RegL.AllReadyL.nil
      go_simp
      refine hK.out _ _ ?_
      clear hK K
      try simp only [Act.put, List.setIfInBounds_toArray, List.set_cons_zero, List.set_cons_succ]
      refine RegL.wpAnyL_ready (rs := [1]) (by kernel_rfl) (by simp) ?_
      refine RegL.AllReadyL.late (o := ⟨some 32, Op.load 35 (Operand.tmp 7), _, _, _, _⟩) rfl (by kernel_rfl) (fun K hK => ?_) RegL.AllReadyL.nil
      go_simp
      refine hK.out _ _ ?_
      clear hK K
      try simp only [Act.put, List.setIfInBounds_toArray, List.set_cons_zero, List.set_cons_succ]
      refine RegL.wpAnyL_ready (rs := [3]) (by kernel_rfl) (by simp) ?_
      refine RegL.AllReadyL.late (o := ⟨none, Op.store 35 (Operand.tmp 5) (Operand.tmp 32), _, _, _, _⟩) rfl (by kernel_rfl) (fun K hK => ?_) RegL.AllReadyL.nil
      go_simp
      refine hK.out _ _ ?_
      clear hK K
      try simp only [Act.put, List.setIfInBounds_toArray, List.set_cons_zero, List.set_cons_succ]
      refine RegL.wpAnyL_done (by kernel_rfl) ?_ _
      refine NoPanic.normal ?_
      (go_wp2_with fail)
      refine bodyPost_ret (results_cc rfl _ _ r (r + 1) MT RT #[.int .u64 y, .int .i64 b, .int .i64 n, .pointer p] #[.slice A1 n1 c1, .slice A2 n2 c2] (0, 0) (0, 0) _ _ rfl rfl HE.out.1 HE.out.2.1 Tryd.underlying30 rfl (by kernel_rfl) Tryd.underlying35 rfl (by kernel_rfl)) rfl ?_
      exact ⟨_, rfl, HE.out.2.2.1, HE.out.2.2.2⟩
end Go.Proofs.YtnegblckbomgdaaDoor.Ht
end
section
namespace Go.Proofs.YtnegblckbomgdaaDoor.Ht
open Go Go.RowKit Go.Shelf Go.Proofs.YtnegblckbomgdaaDoor.Mem Go.Proofs.YtnegblckbomgdaaDoor.PA Go.Proofs.YtnegblckbomgdaaDoorW.PrintWords Go.Proofs.YtnegblckbomgdaaDoor.U64 Go.Proofs.YtnegblckbomgdaaDoor
abbrev kC : ByteArray := ⟨#[99]⟩
theorem klt_ac : klt kA kC = true := by unfold klt; rw [ByteArray.toList_eq, ByteArray.toList_eq]; rfl
theorem klt_bc : klt kB kC = true := by unfold klt; rw [ByteArray.toList_eq, ByteArray.toList_eq]; rfl
theorem ins_a : ins ([] : List Pr) kA 1 = [(kA, 1)] := rfl
theorem ins_ac : ins ([(kA, 1)] : List Pr) kC 2 = [(kA, 1), (kC, 2)] := by
  unfold ins lo hi
  simp [klt_ac, klt_asymm klt_ac]
theorem rnk_ac_a : rnk ([(kA, 1), (kC, 2)] : List Pr) kA = 0 := by
  unfold rnk lo
  simp [klt_self, klt_asymm klt_ac]
theorem rnk_ac_b : rnk ([(kA, 1), (kC, 2)] : List Pr) kB = 1 := by
  unfold rnk lo
  simp [klt_ab, klt_asymm klt_bc]
theorem lkp_ac_a : lkp ([(kA, 1), (kC, 2)] : List Pr) kA = some 1 := by simp [lkp]
theorem lkp_ac_b : lkp ([(kA, 1), (kC, 2)] : List Pr) kB = none := by
  have h1 : ¬ kA = kB := by intro h; have := congrArg (fun b => b.data.toList) h; simp at this
  have h2 : ¬ kC = kB := by intro h; have := congrArg (fun b => b.data.toList) h; simp at this
  simp [lkp, h1, h2]
theorem plc_ac : plc ([(kA, 1), (kC, 2)] : List Pr) 1 = (kC, 2, true) := rfl
theorem next_ac (k : ByteArray) (hk : k = kA ∨ k = kB) (K : Nat → Prop) (p : Option Addr) (V : World) (hT : Tab V) (h : MapV (0#64, 8) K V (mz 8 2 p) (ins (ins [] kA 1) kC 2)) :
    Calls Tryd.prog 42 #[mz 8 2 p, .string k] V (Ret (fun v _ => v = .tuple #[.string kC, .int .i64 2, .bool true]) V) := by
  rw [ins_a, ins_ac] at h
  have := next_c (0#64, 8) K _ _ k V h (by decide) hT
  have e : nxt [(kA, 1), (kC, 2)] k = 1 := by
    unfold nxt
    rcases hk with rfl | rfl
    · rw [lkp_ac_a, rnk_ac_a]; rfl
    · rw [lkp_ac_b, rnk_ac_b]; rfl
  unfold plcV at this
  rw [e, plc_ac] at this
  exact this
theorem rank_ac (K : Nat → Prop) (p : Option Addr) (V : World) (hT : Tab V) (h : MapV (0#64, 8) K V (mz 8 2 p) (ins (ins [] kA 1) kC 2)) :
    Calls Tryd.prog 47 #[mz 8 2 p, .string kB] V (Ret (fun v _ => v = .int .i64 1) V) := by
  rw [ins_a, ins_ac] at h
  have := rank_q (0#64, 8) K _ _ kB V h (by decide) hT
  rw [rnk_ac_b] at this
  exact this
set_option maxRecDepth 100000 in
set_option maxHeartbeats 4000000 in
theorem livep_c (w : World) (hT : Tab w) : Calls Tryd.prog 36 #[] w (Ret (fun v _ => v = .bool true) w) := by
  have HT := Lib.hid hT
  have HN := Lib.hid (fun V => new_lit 8 V)
  have HS1 := Lib.hid (fun V => set_lit 8 0 1 [] kA 1 (by decide) rfl (by rw [ins_a]; rfl) (by decide) (fun _ => False) none V (map_nil 8 _ V))
  have HS2 := Lib.hid (fun K p V (h : MapV (0#64, 8) K V (mz 8 1 p) (ins [] kA 1)) => set_lit 8 1 2 (ins [] kA 1) kC 2 (by decide) (by rw [ins_a]; rfl) (by rw [ins_a, ins_ac]; rfl) (by rw [ins_a]; decide) K p V h)
  have HXA := Lib.hid (fun K p V hT h => next_ac kA (Or.inl rfl) K p V hT h)
  have HXB := Lib.hid (fun K p V hT h => next_ac kB (Or.inr rfl) K p V hT h)
  have HR := Lib.hid (fun K p V hT h => rank_ac K p V hT h)
  clear hT
  go_enter Tryd.func36, Tryd.ntmps36
  go_upto_region 2 with (first
    | (go_at_call 19; ((with_reducible refine (HN.out _).mono ?_); rintro e w1 ⟨v, rfl, rfl, hb1⟩))
    | (go_at_call 25; ((with_reducible refine (HS1.out _).mono ?_); rintro e w2 ⟨v, rfl, ⟨p1, rfl, hm1⟩, hb2⟩))
    | (go_at_call 25; ((with_reducible refine (HS2.out _ _ _ hm1).mono ?_); rintro e w3 ⟨v, rfl, ⟨p2, rfl, hm2⟩, hb3⟩))
    | fail)
  have HB := Lib.hid (blk_new w3 (.cells #[.int .u64 0, .int .i64 8, .int .i64 2, .pointer p2] MT))
  have HM := Lib.hid (hm2.below ((Below.refl w3.heap.size w3).alloc (Nat.le_refl _) (.cells #[.int .u64 0, .int .i64 8, .int .i64 2, .pointer p2] MT)))
  have hb := below_trans (below_trans hb1 hb2) hb3
  have HB0 := Lib.hid (hb.alloc hb.size (.cells #[.int .u64 0, .int .i64 8, .int .i64 2, .pointer p2] MT))
  obtain ⟨⟨b0, b1, b2, b3⟩, -⟩ := box4 HB.out
  clear hm1 hm2 hb1 hb2 hb3 hb HS1 HS2 HN
  generalize w3.alloc (.cells #[.int .u64 0, .int .i64 8, .int .i64 2, .pointer p2] MT) = W at *
  generalize w3.heap.size = g at *
  go_wp2_with (first
    | (go_at_call 42; ((with_reducible refine (HXA.out _ _ _ (HT.out.below HB0.out) HM.out).mono ?_); rintro e w5 ⟨v, rfl, rfl, hb5⟩; have H5 := Lib.hid hb5; obtain ⟨⟨c0, c1, c2, c3⟩, -⟩ := box4 (blk_below HB.out hb5); clear hb5))
    | (go_at_call 42; ((with_reducible refine (HXB.out _ _ _ (HT.out.below (below_trans HB0.out H5.out)) (HM.out.below H5.out)).mono ?_); rintro e w6 ⟨v, rfl, rfl, hb6⟩; have H6 := Lib.hid (below_trans H5.out hb6); obtain ⟨⟨d0, d1, d2, d3⟩, -⟩ := box4 (blk_below HB.out H6.out); clear hb6))
    | (go_at_call 47; ((with_reducible refine (HR.out _ _ _ (HT.out.below (below_trans HB0.out H6.out)) (HM.out.below H6.out)).mono ?_); rintro e w7 ⟨v, rfl, rfl, hb7⟩; have H7 := Lib.hid (below_trans H6.out hb7); clear hb7))
    | fail)
  go_returns
  exact ⟨_, rfl, rfl, below_trans HB0.out H7.out⟩
end Go.Proofs.YtnegblckbomgdaaDoor.Ht
end
section
section
-- PRINTED BY print.sh 35421559b90ae4d0a3588c463048766b98c2df88dd9212a6774a882060cdf62d: not written by this session
-- PRINTED WORDS (module Derived/Print/Words.lean): go-wishes' parts 1 to 38 and go-gate-2's additions: AI agents of Go's test side, Mon Nov 16 2026; no person has read them. Plain theorems and definitions: no macro, no elab, no axiom.
namespace Go.Proofs.YtnegblckbomgdaaDoorW.PrintWords
open Go.RowKit
theorem own_nil (W : World) (base : Nat) (e : TypeId) (size : Nat) : W.ownsRow base e size (.slice none 0 0) 0 [] := ⟨by simp, .inl ⟨rfl, rfl⟩⟩
section
variable {P : Program} {ops : Array Oper} {rest : List Oper} {o : Oper} {a : Act} {Q : Exit → Act → World → Prop}
end
section
variable {P : Program}
end
section
variable {P : Program} {ops : Array Oper} {rest : List Oper} {o : Oper} {a : Act} {Q : Exit → Act → World → Prop}
end
section
variable {P : Program} {ops : Array Oper} {rest : List Oper} {o : Oper} {a : Act} {Q : Exit → Act → World → Prop}
end
theorem blk_grown {w w1 : World} {g : Nat} {o : Obj} {row : Option Nat} (h : w.heap[g]? = some o) (hg : w.grownBy w1 row) (hne : some g ≠ row) : w1.heap[g]? = some o := (hg.block g (blk_lt h) hne).trans h
section
variable {P : Program} {ops : Array Oper} {o : Oper} {a : Act} {Q : Exit → Act → World → Prop} {K : Act → World → Prop}
end
section
variable {α : Type} {enc : α → Value} {d : α}
end
section
variable {α : Type} {P : Program} {ops : Array Oper} {rest : List Oper} {o : Oper} {a : Act} {Q : Exit → Act → World → Prop}
end
section
variable {P : Program}
end
section
variable {α : Type} {R R' : α → List Value → Prop} {e : TypeId} {size : Nat} {w w1 : World} {base : Nat} {v : Value} {ps : List α}
theorem OwnRow.none_ (R : α → List Value → Prop) (e : TypeId) (size : Nat) (w : World) (base : Nat) : OwnRow R e size w base (.slice none 0 0) [] := ⟨[], own_nil _ _ _ _, Reps.none _ _⟩
end
section
variable {P : Program} {ops : Array Oper} {rest : List Oper} {o : Oper} {a : Act} {Q : Exit → Act → World → Prop} {α : Type} {R : α → List Value → Prop}
end
section
variable {P : Program} {ops : Array Oper} {o : Oper} {a : Act} {Q : Exit → Act → World → Prop} {K : Act → World → Prop} {α : Type} {R : α → List Value → Prop}
end
section
variable {α : Type} {P : Program}
end
section
variable {P : Program} {ops : Array Oper} {rest : List Oper} {o : Oper} {a : Act} {Q : Exit → Act → World → Prop}
end
namespace Kd
section
variable {α : Type} {d : Kd α} {e : Nat} {w w1 : World} {base : Nat} {ok ok' : Nat → Prop} {v : Value} {xs : List α}
theorem R_nil (d : Kd α) (e : Nat) (w : World) (base : Nat) (ok : Nat → Prop) : d.R e w base ok (.slice none 0 0) [] := ⟨fun k hk => by simp [Value.ownBlock] at hk, OwnRow.none_ _ _ _ _ _⟩
theorem R_far (h : d.R e w base ok v xs) {p : Addr} (hok : ∀ k, ok k → k ≠ p.block) (u : Value) : d.R e (w.setCell p u) base ok v xs := R_step h (fun k ho _ => Below.heap_setCell w p u k (hok k ho))
end
theorem R_appended {α : Type} {d : Kd α} {e base : Nat} {ok okp : Nat → Prop} {W w1 : World} {v v1 : Value} {xs : List α} {p : α} {inner cs : List Value} (h0 : ∀ k, v.ownBlock = some k → ok k) (hr : Reps (d.M W base (fun k => ok k ∧ some k ≠ v.ownBlock)) d.sz xs inner) (hp : d.M W base okp p cs) (hokp : ∀ k, okp k → ok k ∧ some k ≠ v.ownBlock) (hfresh : ∀ k, W.heap.size ≤ k → ok k)
    (hown : w1.ownsRow base e d.sz v1 (xs.length + 1) (inner ++ cs)) (hg : W.grownBy w1 v.ownBlock) (hat : v1.ownBlock = v.ownBlock ∨ ∃ b, v1.ownBlock = some b ∧ W.heap.size ≤ b) : d.R e w1 base ok v1 (xs ++ [p]) := by
  have hne : ∀ k, some k ≠ v.ownBlock → k < W.heap.size → some k ≠ v1.ownBlock := by
    intro k hk hlt
    rcases hat with hat | ⟨b, hb, hle⟩
    · rw [hat]; exact hk
    · rw [hb]
      intro he
      injection he with he
      omega
  have step : ∀ {q : α} {c : List Value} {o : Nat → Prop}, d.M W base o q c → (∀ k, o k → ok k ∧ some k ≠ v.ownBlock) → d.M w1 base (fun k => ok k ∧ some k ≠ v1.ownBlock) q c := by
    intro q c o hq ho
    have h1 := d.M_move (w1 := w1) (fun k hk => hg.block k hk.2.2.1 (ho k hk.1).2) (d.M_bound hq)
    exact d.M_mono (fun k hk => ⟨(ho k hk.1).1, hne k (ho k hk.1).2 hk.2.2.1⟩) h1
  refine ⟨fun k hk => ?_, inner ++ cs, by rw [List.length_append, List.length_singleton]; exact hown, ?_⟩
  · rcases hat with hat | ⟨b, hb, hle⟩
    · exact h0 k (hat ▸ hk)
    · rw [hb] at hk
      injection hk with hk
      exact hfresh k (by omega)
  · exact (hr.imp_ (fun _ _ hq => step hq (fun _ hk => hk))).snoc (step hp hokp) (d.K_len (d.K_of_M hp))
section
variable {P : Program} {ops : Array Oper} {rest : List Oper} {o : Oper} {a : Act} {Q : Exit → Act → World → Prop} {α : Type}
theorem R_append (d : Kd α) {w0 W : World} (base : Nat) (hgd : o.guard = none) (s x : Operand) (t e : TypeId) (z : Value) (bytes : Nat)
    (ho : o.op = .call { callee := .builtin .append, args := #[s, x], argTypes := #[t, t] })
    (ht : P.underlying t = some (.slice e)) (hinfo : (P.info? e).map (fun i => (i.zero, i.size, i.bytes)) = some (some z, d.sz, bytes)) (hz : z.cells.size = d.sz) (hs0 : 0 < d.sz) (hb0 : 0 < bytes)
    (v : Value) (xs : List α) (p : α) (cs : List Value) (ok okp : Nat → Prop) (hs : a.eval s = v) (hx : a.eval x = .slice (some ⟨W.heap.size, 0, none⟩) 1 1) (hp : d.M W base okp p cs) (hokp : ∀ k, okp k → ok k ∧ some k ≠ v.ownBlock) (hfresh : ∀ k, W.heap.size ≤ k → ok k)
    (HO : d.R e W base ok v xs) (HB : Below base w0 W) (hbase : base ≤ W.heap.size) (hl : (xs.length + 1) * bytes ≤ 140737488355328)
    (h : ∀ v1 w1, d.R e w1 base ok v1 (xs ++ [p]) → Below base w0 w1 → W.grownBy w1 v.ownBlock → (v1.ownBlock = v.ownBlock ∨ ∃ b, v1.ownBlock = some b ∧ W.heap.size ≤ b) → wpList P ops Q rest (a.put o.dst v1) w1) :
    wpList P ops Q (o :: rest) a (W.alloc (.cells cs.toArray e)) := by
  obtain ⟨h0, inner, hown, hr⟩ := HO
  refine print_append_cells base hgd s x t e z d.sz bytes ho ht hinfo hz hs0 hb0 v xs.length inner cs hs hx (d.K_len (d.K_of_M hp)) (d.K_one (d.K_of_M hp)) hown HB hbase hl ?_
  intro v1 w1 hown1 hb1 hg1 hat1
  exact h v1 w1 (R_appended h0 hr hp hokp hfresh hown1 hg1 hat1) hb1 hg1 hat1
end
section
variable {P : Program} {ops : Array Oper} {o : Oper} {a : Act} {Q : Exit → Act → World → Prop} {Kc : Act → World → Prop} {α : Type}
end
end Kd
namespace Kd
section
variable {α : Type} {F : Kd α → Kd α} {sz : Nat} {E : List Nat} {hs : ∀ n, (upto F sz E n).sz = sz} {hE : ∀ n q, q ∈ (upto F sz E n).E → q ∈ E}
end
end Kd
namespace Kd
end Kd
namespace Kd
section
variable {α β : Type} {d : Kd α} {d' : Kd β} {e e' : Nat} {w w1 W : World} {base b b' : Nat} {ok ok' okv oku : Nat → Prop} {v u : Value} {xs : List α} {ys : List β}
theorem C_nil (d : Kd α) (w : World) : d.C w none ([] : List α).length [] := ⟨rfl, by simp, fun h => absurd h (Nat.lt_irrefl 0)⟩
theorem R_away (h : d.R e w base ok v xs) {g : Nat} (hok : ∀ k, ok k → k ≠ g) : some g ≠ v.ownBlock := fun e => hok g (h.1 g e.symm) rfl
end
section
variable {w W : World} {A : Option Addr} {n : Nat}
variable {α : Type} {enc : α → Value} {h1 : ∀ x, (enc x).oneCell' = true} {e base g cap : Nat} {ok : Nat → Prop} {xs : List α}
end
section
variable {P : Program} {ops : Array Oper} {rest : List Oper} {o : Oper} {a : Act} {Q : Exit → Act → World → Prop}
variable {α : Type}
end
end Kd
section
variable {P : Program}
end
section
variable {w w1 : World} {base n size : Nat} {e : TypeId} {v : Value} {xs : List Value}
theorem q_of_own (h : w.ownsRow base e size v n xs) : QRow w base e size v n xs := by
  obtain ⟨h1, h2⟩ := h
  refine ⟨h1, ?_⟩
  rcases h2 with ⟨rfl, h0⟩ | ⟨g, cap, cur, rfl, hb, hh, hnc, hcm, hcs, ht⟩
  · exact .inl ⟨h0, none, rfl, fun a ha => by cases ha⟩
  · exact .inr ⟨g, 0, cap, cur, by rw [Nat.zero_mul], hb, hh, hnc, by rw [Nat.zero_add]; exact hcm, by rw [Nat.zero_add]; exact hcs, by rw [Nat.zero_mul, List.drop_zero]; exact ht⟩
end
section
variable {P : Program}
end
namespace Kd
section
variable {α : Type} {d : Kd α} {e : Nat} {w w1 W : World} {base : Nat} {ok ok' : Nat → Prop} {v : Value} {xs : List α}
theorem Q_of_R (h : d.R e w base ok v xs) : d.Q e w base ok v xs := by
  obtain ⟨h0, inner, ho, hr⟩ := h
  exact ⟨h0, inner, q_of_own ho, hr⟩
theorem Q_nil (d : Kd α) (e : Nat) (w : World) (base : Nat) (ok : Nat → Prop) : d.Q e w base ok (.slice none 0 0) [] := Q_of_R (R_nil d e w base ok)
end
section
variable {P : Program} {ops : Array Oper} {rest : List Oper} {o : Oper} {a : Act} {Q' : Exit → Act → World → Prop} {Kc : Act → World → Prop} {α : Type}
end
end Kd
namespace Kd
section
variable {α : Type} {d : Kd α} {e e' : Nat} {w w1 W : World} {base : Nat} {ok : Nat → Prop} {u v : Value} {xs : List α}
end
end Kd
namespace Kd
section
variable {α : Type} {d : Kd α} {e base g n cap : Nat} {ok okp : Nat → Prop} {W : World} {xs : List α}
end
end Kd
namespace Kd
section
variable {α : Type} {F : Kd α → Kd α} {sz : Nat} {E : List Nat} {hs : ∀ n, (upto F sz E n).sz = sz} {hE : ∀ n q, q ∈ (upto F sz E n).E → q ∈ E}
end
end Kd
namespace Kd
section
variable {P : Program} {ops : Array Oper} {rest : List Oper} {o : Oper} {a : Act} {Q : Exit → Act → World → Prop} {α : Type}
end
end Kd
namespace Kd
section
variable {P : Program} {ops : Array Oper} {rest : List Oper} {o : Oper} {a : Act} {Q : Exit → Act → World → Prop} {α : Type}
end
end Kd
namespace Kd
section
variable {α : Type} {k : Kd α} {w : World} {A : Option Addr} {xs : List α} {m c : Nat}
end
end Kd
section
variable {P : Program}
end
namespace Kd
section
variable {α β : Type} {d : Kd α} {d' : Kd β} {e e' base base' n : Nat} {ok ok' : Nat → Prop} {w W w1 W1 : World} {v u : Value} {xs : List α} {ys : List β} {A : Option Addr} {c : Nat}
end
section
variable {α : Type} {enc : α → Value} {h1 : ∀ x, (enc x).oneCell' = true} {w W : World} {A : Option Addr} {n g : Nat} {xs : List α}
end
end Kd
namespace Kd
section
variable {α : Type} {d : Kd α} {e base g : Nat} {ok : Nat → Prop} {w w1 : World} {v : Value} {xs : List α} {o : Obj}
theorem R_elderB (h : d.R e w base ok v xs) (a : Nat) (ha : w.heap.size ≤ a) : d.R e w base (fun k => ok k ∧ k ≠ a) v xs := R_mono (R_bound h) (fun k hk => ⟨hk.1, by have := hk.2.2.1; omega⟩)
theorem freshB (hb : w.heap[g]? = some o) : ∀ k, w.heap.size ≤ k → k ≠ g := fun k hk => by have := blk_lt hb; omega
end
end Kd
section
variable {P : Program} {ops : Array Oper} {rest : List Oper} {o : Oper} {a : Act} {Q : Exit → Act → World → Prop}
end
namespace Kd
section
variable {α : Type} {enc : α → Value} {h1 : ∀ x, (enc x).oneCell' = true} {e base g n cap : Nat} {ok : Nat → Prop} {W : World} {xs : List α}
end
end Kd
section
variable {P : Program} {ops : Array Oper} {rest : List Oper} {o : Oper} {a : Act} {Q : Exit → Act → World → Prop}
end
namespace Kd
section
variable {α : Type} {enc : α → Value} {h1 : ∀ x, (enc x).oneCell' = true} {e base g n cap : Nat} {ok : Nat → Prop} {W : World} {xs : List α}
end
end Kd
section
variable {P : Program} {ops : Array Oper} {rest : List Oper} {o : Oper} {a : Act} {Q : Exit → Act → World → Prop} {W : World}
end
section
variable {P : Program} {ops : Array Oper} {o : Oper} {a : Act} {Q : Exit → Act → World → Prop} {Kc : Act → World → Prop}
namespace Kd
variable {α : Type}
end Kd
end
section
variable {P : Program} {tmps : Array Value} {w : World}
end
namespace Kd
section
variable {P : Program} {α : Type}
end
section
variable {P : Program} {ops : Array Oper} {rest : List Oper} {o : Oper} {a : Act} {Q : Exit → Act → World → Prop} {Kc : Act → World → Prop} {α : Type}
end
end Kd
end Go.Proofs.YtnegblckbomgdaaDoorW.PrintWords
end
section
-- PRINTED BY print.sh 35421559b90ae4d0a3588c463048766b98c2df88dd9212a6774a882060cdf62d: not written by this session
namespace Go.Proofs.YtnegblckbomgdaaDoorW.PrintWords
open Go.RowKit
namespace Kd
section
variable {α β : Type} {d : Kd α} {d' : Kd β} {e e' : Nat} {w w1 W : World} {base b : Nat} {ok ok' okv oku : Nat → Prop} {u v : Value} {xs : List α} {ys : List β}
theorem S_nil (d : Kd α) (e : Nat) (w : World) (base : Nat) (ok : Nat → Prop) : S d e w base ok (.slice none 0 0) [] := ⟨fun _ => 0, R_nil _ _ _ _ _⟩
end
section
variable {α β : Type} {d : Kd α} {d' : Kd β} {e e' g : Nat} {w w1 W : World} {base b : Nat} {ok ok' okv oku : Nat → Prop} {u v : Value} {xs : List α} {ys : List β}
end
section
variable {P : Program} {ops : Array Oper} {rest : List Oper} {o : Oper} {a : Act} {Q : Exit → Act → World → Prop} {Kc : Act → World → Prop} {α : Type}
end
section
variable {α β : Type} {d : Kd α} {e e' g n cap : Nat} {w w1 W : World} {base : Nat} {ok ok' oki okp : Nat → Prop} {u v : Value} {xs : List α} {i : Int} {c : List Value}
end
section
variable {P : Program} {ops : Array Oper} {rest : List Oper} {o : Oper} {a : Act} {Q : Exit → Act → World → Prop} {α : Type}
end
end Kd
end Go.Proofs.YtnegblckbomgdaaDoorW.PrintWords
end
section
-- PRINTED BY print.sh 35421559b90ae4d0a3588c463048766b98c2df88dd9212a6774a882060cdf62d: not written by this session
namespace Go.Proofs.YtnegblckbomgdaaDoorW.PrintWords
open Go.RowKit
namespace Foot
variable {P Q : World → Prop} {W W1 : World} {ok ok' : Nat → Prop}
end Foot
namespace Kd
section
variable {α β : Type} {d : Kd α} {e base n n' cc g N : Nat} {ok ok' okp S : Nat → Prop} {w w0 w1 W W1 : World} {A A' : Option Addr} {u v v1 : Value} {xs : List α} {xs' : List β} {d' : Kd β} {x : α} {c : List Value}
theorem F_nil (d : Kd α) (W : World) (ok : Nat → Prop) : F d W ok none ([] : List α).length [] := fun W' _ => C_nil d W'
theorem FK_of_M (h : d.M W base ok x c) : FK d W ok x c := fun _ hW => d.K_of_M (M_step h hW)
end
end Kd
end Go.Proofs.YtnegblckbomgdaaDoorW.PrintWords
end
section
-- PRINTED BY print.sh 35421559b90ae4d0a3588c463048766b98c2df88dd9212a6774a882060cdf62d: not written by this session
namespace Go.Proofs.YtnegblckbomgdaaDoorW.PrintWords
open Go.RowKit
namespace Kd
def chunks (sz : Nat) (n : Nat) (inner : List Value) : List (List Value) := (List.range n).map fun j => (inner.drop (j * sz)).take sz
theorem chunks_length (sz n : Nat) (inner : List Value) : (chunks sz n inner).length = n := by simp [chunks]
theorem chunks_at {sz n : Nat} {inner : List Value} {j : Nat} (hj : j < n) : (chunks sz n inner)[j]? = some ((inner.drop (j * sz)).take sz) := by simp [chunks, hj]
theorem chunks_get {sz n : Nat} {inner : List Value} {j : Nat} {c : List Value} (h : (chunks sz n inner)[j]? = some c) : c = (inner.drop (j * sz)).take sz := by
  have hj : j < n := by have := (List.getElem?_eq_some_iff.1 h).1; rwa [chunks_length] at this
  rw [chunks_at hj] at h
  injection h with h
  exact h.symm
theorem reps_raw {α : Type} {Rr : α → List Value → Prop} {sz : Nat} {xs : List α} {inner : List Value} (h : Reps Rr sz xs inner) (hR : ∀ x c, Rr x c → c.length = sz ∧ ∀ u ∈ c, u.oneCell' = true) : Reps (fun x cs => cs = x ∧ cs.length = sz ∧ ∀ u ∈ cs, u.oneCell' = true) sz (chunks sz xs.length inner) inner := by
  refine ⟨by rw [chunks_length]; exact h.1, fun j p hj => ?_⟩
  have hjl : j < xs.length := by have := (List.getElem?_eq_some_iff.1 hj).1; rwa [chunks_length] at this
  have hp := chunks_get hj
  exact ⟨hp.symm, hR _ _ (h.2 j _ (List.getElem?_eq_getElem hjl))⟩
section
variable {α : Type} {d : Kd α} {e base n cc g : Nat} {ok ok' okp S : Nat → Prop} {w w1 W W1 : World} {A : Option Addr} {u v v1 : Value} {xs : List α} {x : α} {c : List Value}
theorem R_N (h : d.R e w base ok v xs) : N d e w base ok v xs := by
  obtain ⟨h0, inner, ho, hr⟩ := h
  refine ⟨h0, chunks d.sz xs.length inner, chunks_length _ _ _, ⟨fun k hk => hk.symm, inner, by rw [chunks_length]; exact ho, reps_raw hr (fun x c hp => ⟨d.K_len (d.K_of_M hp), d.K_one (d.K_of_M hp)⟩)⟩, fun j x c hx hc => ?_⟩
  rw [chunks_get hc]
  exact FK_of_M (hr.2 j x hx)
theorem N_nil (d : Kd α) (e : Nat) (w : World) (base : Nat) (ok : Nat → Prop) : N d e w base ok (.slice none 0 0) [] := R_N (R_nil _ _ _ _ _)
end
end Kd
end Go.Proofs.YtnegblckbomgdaaDoorW.PrintWords
end
section
-- PRINTED BY print.sh 35421559b90ae4d0a3588c463048766b98c2df88dd9212a6774a882060cdf62d: not written by this session
-- PRINTED WORDS (module Derived/Print/More.lean): go-gate-2's additions: an AI agent of Go's test side, Tue Nov 17 2026; no person has read it. Lean checks it.
namespace Go.Proofs.YtnegblckbomgdaaDoorW.PrintMore
open Go.RowKit Go.Proofs.YtnegblckbomgdaaDoorW.PrintWords
namespace Kd
open Go.Proofs.YtnegblckbomgdaaDoorW.PrintWords.Kd
end Kd
namespace Kd
open Go.Proofs.YtnegblckbomgdaaDoorW.PrintWords.Kd
section
variable {α : Type} {d : Kd α} {e base g N : Nat} {ok : Nat → Prop} {W w1 : World} {u v : Value} {xs : List α}
end
end Kd
end Go.Proofs.YtnegblckbomgdaaDoorW.PrintMore
namespace Go.Proofs.YtnegblckbomgdaaDoorW.PrintWords
open Go.RowKit
section
variable {P : Program} {ops : Array Oper} {rest : List Oper} {o : Oper} {a : Act} {Q : Exit → Act → World → Prop} {W : World}
theorem gate_builtin {b : Builtin} {xs : Array Operand} {ts : Array TypeId} (_ho : o.op = .call { callee := .builtin b, args := xs, argTypes := ts }) (h : wpList P ops Q (o :: rest) a W) : wpList P ops Q (o :: rest) a W := h
end
namespace Kd
section
variable {α : Type} {d : Kd α} {e base : Nat} {ok : Nat → Prop} {W w1 : World} {v : Value} {xs : List α}
end
section
variable {α : Type} {d : Kd α} {e base g n cap : Nat} {ok oki okp : Nat → Prop} {W : World} {xs : List α} {i : Int} {c : List Value}
end
section
variable {α : Type} {d : Kd α} {e base b b' g N : Nat} {ok ok1 : Nat → Prop} {W W2 w1 : World} {u v : Value} {xs ys : List α} {S : Nat → Prop}
end
end Kd
end Go.Proofs.YtnegblckbomgdaaDoorW.PrintWords
namespace Go.Proofs.YtnegblckbomgdaaDoorW.PrintWords
open Go.RowKit
namespace Kd
section
variable {α β : Type} {d : Kd α} {e base base' n m c g N' lo hi : Nat} {ok ok' S : Nat → Prop} {w W w1 : World} {A : Option Addr} {ad : Addr} {u v v1 : Value} {xs : List α}
theorem V_nil (d : Kd α) (e : Nat) (W : World) (base : Nat) (ok : Nat → Prop) : V d e W base ok (.slice none 0 0) [] := ⟨none, 0, rfl, Nat.le_refl _, F_nil d W ok⟩
end
end Kd
end Go.Proofs.YtnegblckbomgdaaDoorW.PrintWords
end
section
-- Written by a program (the kit's print.py, called over functions of which some are replaced), then cut: Lean checks it.
namespace Go.Proofs.YtnegblckbomgdaaDoor.PA
open Go.RowKit Go.Proofs.YtnegblckbomgdaaDoorW.PrintWords Go.Proofs.YtnegblckbomgdaaDoorW.PrintLast Go.Proofs.YtnegblckbomgdaaDoorW.PrintMore
attribute [local go_sem] max2_int min2_int max_two min_two max_three min_three max_four min_four   -- for this text's walks alone
theorem info92 : (Tryd.prog.info? 92).map (fun i => (i.zero, i.size, i.bytes)) = some (some (.agg #[(.string ⟨#[]⟩), (.bool false), (.bool false), (.int .i64 0), (.int .i64 0)]), 5, 40) := by kernel_rfl
def z92 : S92 := ⟨(⟨#[]⟩ : ByteArray), false, false, (0 : Int), (0 : Int)⟩
def k92 : Kd S92 := Kd.iso (Kd.pair Kd.string (Kd.pair Kd.bool (Kd.pair Kd.bool (Kd.pair (Kd.int .i64) (Kd.int .i64))))) (fun x : S92 => (x.f0, x.f1, x.f2, x.f3, x.f4))
theorem k92_open {w : World} {x : S92} {cs : List Value} (h : k92.K w x cs) : cs = [.string x.f0, .bool x.f1, .bool x.f2, .int .i64 x.f3, .int .i64 x.f4] := by
  obtain ⟨_, _, rfl, rfl, ⟨_, _, rfl, rfl, ⟨_, _, rfl, rfl, ⟨_, _, rfl, rfl, rfl⟩⟩⟩⟩ := h
  exact rfl
theorem k92_mkM (w : World) (base : Nat) (ok : Nat → Prop) (x : S92)  : k92.M w base ok x [.string x.f0, .bool x.f1, .bool x.f2, .int .i64 x.f3, .int .i64 x.f4] := ⟨[.string x.f0], [.bool x.f1, .bool x.f2, .int .i64 x.f3, .int .i64 x.f4], rfl, rfl, ⟨[.bool x.f1], [.bool x.f2, .int .i64 x.f3, .int .i64 x.f4], rfl, rfl, ⟨[.bool x.f2], [.int .i64 x.f3, .int .i64 x.f4], rfl, rfl, ⟨[.int .i64 x.f3], [.int .i64 x.f4], rfl, rfl, rfl⟩⟩⟩⟩
def rd_T92 (xs : List S92) (i : Int) : S92 := xs.getD i.toNat z92
theorem at_T92 {w : World} {A : Option Addr} {n : Nat} {xs : List S92} (h : Kd.C k92 w A n xs) (i : Int) (h0 : 0 ≤ i) (h1 : i < n) : ∃ ad , A = some ad ∧ w.cell? (ad.add (i.toNat * 5)) = some (.string (rd_T92 xs i).f0) ∧ w.cell? ⟨(ad.add (i.toNat * 5)).block, (ad.add (i.toNat * 5)).off + 1, none⟩ = some (.bool (rd_T92 xs i).f1) ∧ w.cell? ⟨(ad.add (i.toNat * 5)).block, (ad.add (i.toNat * 5)).off + 2, none⟩ = some (.bool (rd_T92 xs i).f2) ∧ w.cell? ⟨(ad.add (i.toNat * 5)).block, (ad.add (i.toNat * 5)).off + 3, none⟩ = some (.int .i64 (rd_T92 xs i).f3) ∧ w.cell? ⟨(ad.add (i.toNat * 5)).block, (ad.add (i.toNat * 5)).off + 4, none⟩ = some (.int .i64 (rd_T92 xs i).f4) := by
  obtain ⟨ad, c, e, _, hK, hc0⟩ := Kd.C_get h z92 i h0 h1
  have hc : ∀ j u, c[j]? = some u → w.cell? (ad.add (i.toNat * 5 + j)) = some u := hc0
  obtain rfl := k92_open hK
  exact ⟨ad, e, hc 0 _ rfl, by rw [← add_field _ _ 1 (by omega)]; exact hc 1 _ rfl, by rw [← add_field _ _ 2 (by omega)]; exact hc 2 _ rfl, by rw [← add_field _ _ 3 (by omega)]; exact hc 3 _ rfl, by rw [← add_field _ _ 4 (by omega)]; exact hc 4 _ rfl⟩
end Go.Proofs.YtnegblckbomgdaaDoor.PA
end
section
-- Written by a program (the kit's print.py, called over functions of which some are replaced), then cut: Lean checks it.
namespace Go.Proofs.YtnegblckbomgdaaDoor.PA
open Go.RowKit Go.Proofs.YtnegblckbomgdaaDoorW.PrintWords Go.Proofs.YtnegblckbomgdaaDoorW.PrintLast Go.Proofs.YtnegblckbomgdaaDoorW.PrintMore
attribute [local go_sem] max2_int min2_int max_two min_two max_three min_three max_four min_four   -- for this text's walks alone
def dict_Turned_int.l0 : Nat → List (S92) → List (S92) → Int → Int → Option ((List (S92)))
  | 0, _, _, _, _ => none
  | k + 1, x3, x6, x7, x8 => if x8 < x7 then (if 0 ≤ x8 then (if x8 < (x6.length : Int) then (if x3.length < 3518437208883 then (dict_Turned_int.l0 k (x3 ++ [(⟨(rd_T92 x6 x8).f0, (rd_T92 x6 x8).f2, (rd_T92 x6 x8).f1, (rd_T92 x6 x8).f4, (rd_T92 x6 x8).f3⟩ : S92)]) x6 x7 (wrap64 (x8 + 1))) else (none)) else (none)) else (none)) else (some x3)
def dict_Turned_int.f (k : Nat) (l0 : List (S92)) : Option ((List (S92))) := dict_Turned_int.l0 k ([] : List (S92)) l0 (l0.length : Int) 0
theorem dict_Turned_int.mono_l : ∀ k, (∀ y0 y1 y2 y3, LeO (dict_Turned_int.l0 k y0 y1 y2 y3) (dict_Turned_int.l0 (k + 1) y0 y1 y2 y3))
  | 0 => fun _ _ _ _ r h => by simp [dict_Turned_int.l0] at h
  | k + 1 => by
    have ih0 := dict_Turned_int.mono_l k
    · intro y0 y1 y2 y3
      unfold dict_Turned_int.l0
      repeat' first
      | (with_reducible exact ih0 _ _ _ _)
      | (with_reducible exact LeO.refl _)
      | (with_reducible exact LeO.none _)
      | (with_reducible refine LeO.ite ?_ ?_)
      | (with_reducible refine LeO.bind ?_ (fun _ => ?_))
      | exact ih0 _ _ _ _
      | exact LeO.none _
      | refine LeO.ite ?_ ?_
      | refine LeO.bind ?_ (fun _ => ?_)
theorem dict_Turned_int.mono : ∀ a0 k, LeO (dict_Turned_int.f k a0) (dict_Turned_int.f (k + 1) a0) := by
  intro a0 k
  have ih0 := dict_Turned_int.mono_l k
  unfold dict_Turned_int.f
  repeat' first
      | (with_reducible exact ih0 _ _ _ _)
      | (with_reducible exact LeO.refl _)
      | (with_reducible exact LeO.none _)
      | (with_reducible refine LeO.ite ?_ ?_)
      | (with_reducible refine LeO.bind ?_ (fun _ => ?_))
      | exact ih0 _ _ _ _
      | exact LeO.none _
      | refine LeO.ite ?_ ?_
      | refine LeO.bind ?_ (fun _ => ?_)
set_option maxHeartbeats 8000000 in
set_option maxRecDepth 100000 in
theorem dict_Turned_int.calls (k : Nat) (A0 : Option Addr) (c0 : Nat) (l0 : List (S92)) (r : List (S92)) (w : World) (hr0 : Kd.C k92 w A0 l0.length l0) (hc0 : l0.length ≤ c0) (h : dict_Turned_int.f k l0 = some r) :
    Calls Tryd.prog 55 #[.slice A0 l0.length c0] w fun e w' => ∃ v0_ : Value, e = .returned (v0_) ∧ Kd.R k92 92 w' w.heap.size (fun _ => True) v0_ r ∧ Below w.heap.size w w' := by
  have hu92 := Tryd.underlying92
  have HR0 := Aside0.mk hr0
  have HC0 := Aside0.mk hc0
  clear hr0 hc0
  have HB := Aside0.mk (Below.refl w.heap.size w)
  have H : (dict_Turned_int.l0 k ([] : List (S92)) l0 (l0.length : Int) 0) = some r := h
  clear h
  have H' := Aside0.mk H
  clear H
  go_enter Tryd.func55, Tryd.ntmps55
  go_wp2
  go_loopg [3, 8] k (fun kq v3 v8 w' => ∃ (x3_1 : List (S92)) (x8_1 : Int), v8 = .int .i64 x8_1 ∧ Aside0 (dict_Turned_int.l0 kq x3_1 l0 (l0.length : Int) x8_1 = some r) ∧ Aside0 (kq ≤ k) ∧ Aside0 (Kd.R k92 92 w' w.heap.size (fun _ => True) v3 x3_1) ∧ Aside0 (Below w.heap.size w w'))
  case atStart => exact ⟨(([] : List (S92))), (0), (by first | rfl | (simp; done) | (simp [*]; done)), H', ⟨Nat.le_refl _⟩, ⟨by first | exact Kd.R_nil _ _ _ _ _ | exact Kd.N_nil _ _ _ _ _ | exact Kd.V_nil _ _ _ _ _ | exact Kd.Q_nil _ _ _ _ _ | exact Kd.S_nil _ _ _ _ _⟩, ⟨by repeat (first | (with_reducible first | exact HB.out | apply below_alloc | apply pw_below_drewN | apply below_drew1) | exact HB.out)⟩⟩
  case round =>
    clear H'
    obtain ⟨x3_1, x8_1, rfl, HA, HK1, HO_3, HB⟩ := hrel
    cases gk with
    | zero => exact absurd HA.out (by simp [dict_Turned_int.l0])
    | succ k1 =>
      have H := HA.out
      clear HA
      simp only [dict_Turned_int.l0] at H
      by_cases c2 : x8_1 < (l0.length : Int)
      · rw [if_pos c2] at H
        have c2b0 : decide (x8_1 < (l0.length : Int)) = true := decide_eq_true c2
        clear c2
        by_cases c3 : 0 ≤ x8_1
        · rw [if_pos c3] at H
          have c3b0 : decide (0 ≤ x8_1) = true := decide_eq_true c3
          clear c3
          by_cases c4 : x8_1 < (l0.length : Int)
          · rw [if_pos c4] at H
            have c4b0 : decide (x8_1 < (l0.length : Int)) = true := decide_eq_true c4
            clear c4
            by_cases c5 : x3_1.length < 3518437208883
            · rw [if_pos c5] at H
              have LMc5 := Aside0.mk c5
              clear c5
              obtain ⟨y244, hy244⟩ : ∃ y_ : List (S92), y_ = (x3_1 ++ [(⟨(rd_T92 l0 x8_1).f0, (rd_T92 l0 x8_1).f2, (rd_T92 l0 x8_1).f1, (rd_T92 l0 x8_1).f4, (rd_T92 l0 x8_1).f3⟩ : S92)]) := ⟨_, rfl⟩
              replace H : (dict_Turned_int.l0 k1 y244 l0 (l0.length : Int) (wrap64 (x8_1 + 1))) = some r := by first | (rw [hy244]; with_reducible exact H) | (have H2_ := (Option.bind_some _ _).symm.trans H; rw [hy244]; with_reducible exact H2_) | (have H2_ := (Option.bind_some _ _).symm.trans H; with_reducible exact H2_) | with_reducible exact H | (rw [hy244]; exact H) | exact H
              have Ny244 := Aside0.mk hy244
              clear hy244
              have H' := Aside0.mk H
              clear H
              have p242 : 0 ≤ (x8_1 : Int) := of_decide_eq_true (by first | (with_reducible assumption) | assumption)
              have q242 : x8_1 < (l0.length : Int) := of_decide_eq_true (by first | (with_reducible assumption) | assumption)
              obtain ⟨ad242, e242, hx242_0, hx242_1, hx242_2, hx242_3, hx242_4⟩ := at_T92 HR0.out x8_1 p242 q242
              cases e242
              replace hx242_0 := (HB.out.cell (World.block_lt_of_cell? w _ hx242_0)).trans hx242_0
              replace hx242_1 := (HB.out.cell (World.block_lt_of_cell? w _ hx242_1)).trans hx242_1
              replace hx242_2 := (HB.out.cell (World.block_lt_of_cell? w _ hx242_2)).trans hx242_2
              replace hx242_3 := (HB.out.cell (World.block_lt_of_cell? w _ hx242_3)).trans hx242_3
              replace hx242_4 := (HB.out.cell (World.block_lt_of_cell? w _ hx242_4)).trans hx242_4
              replace p242 := eq_true p242
              replace q242 := eq_true q242
              go_wp2_with (first | ((with_reducible refine gate_dst (N := 5) rfl ?_); refine box_event ?hg (N := 5) ?hd (cs := #[.string (⟨#[]⟩ : ByteArray), .bool false, .bool false, .int .i64 0, .int .i64 0]) (t := 92) ?hr ?_; (case hd => rfl); (case hg => rfl); (case hr => first | (go_simp; done) | (go_simp; rfl)); intro gb243 hg w6 hbox hb; have n0_ := Aside0.mk (Kd.R_below (Kd.R_elderB (by (with_reducible repeat (first | apply Kd.R_alloc | apply Kd.R_drewN | apply Kd.R_drew)); exact HO_3.out) gb243 (Nat.le_of_eq hg.symm)) hb); have n1_ := Aside0.mk (below_step (by repeat (first | (with_reducible first | exact HB.out | apply below_alloc | apply pw_below_drewN | apply below_drew1) | exact HB.out)) hb); have n2_ := Aside0.mk (hbox); have n3_ := Aside0.mk ((by rw [hg]; exact (below_size (by repeat (first | (with_reducible first | exact HB.out | apply below_alloc | apply pw_below_drewN | apply below_drew1) | exact HB.out))) : w.heap.size ≤ gb243)); have n4_ := Aside0.mk ((by rw [hg]; exact (below_size (by repeat (first | (with_reducible first | exact HB.out | apply below_alloc | apply pw_below_drewN | apply below_drew1) | exact HB.out))) : w.heap.size ≤ gb243)); clear HO_3; clear HB; have HO_3 := n0_; have HB := n1_; have BK243 := n2_; have GW243 := n3_; have GE243 := n4_; clear n0_ n1_ n2_ n3_ n4_; clear hb hbox hg; have hcz7_0 : w6.cell? ⟨gb243, 0, none⟩ = some (.string (⟨#[]⟩ : ByteArray)) := (blk_cell BK243.out 0).trans rfl; have hcz7_1 : w6.cell? ⟨gb243, 1, none⟩ = some (.bool false) := (blk_cell BK243.out 1).trans rfl; have hcz7_2 : w6.cell? ⟨gb243, 2, none⟩ = some (.bool false) := (blk_cell BK243.out 2).trans rfl; have hcz7_3 : w6.cell? ⟨gb243, 3, none⟩ = some (.int .i64 0) := (blk_cell BK243.out 3).trans rfl; have hcz7_4 : w6.cell? ⟨gb243, 4, none⟩ = some (.int .i64 0) := (blk_cell BK243.out 4).trans rfl; have hfz7_0 := blk_frozen BK243.out 0; have hfz7_1 := blk_frozen BK243.out 1; have hfz7_2 := blk_frozen BK243.out 2; have hfz7_3 := blk_frozen BK243.out 3; have hfz7_4 := blk_frozen BK243.out 4) | ((with_reducible refine gate_builtin (b := .append) (xs := #[.tmp 12, .tmp 24]) rfl ?_); at_builtin; refine Kd.R_append k92 (w0 := w) w.heap.size rfl (.tmp 12) (.tmp 24) 78 92 (.agg #[(.string ⟨#[]⟩), (.bool false), (.bool false), (.int .i64 0), (.int .i64 0)]) 40 rfl Tryd.underlying78 info92 rfl (by decide) (by omega) u3 x3_1 (⟨(rd_T92 l0 x8_1).f0, (rd_T92 l0 x8_1).f2, (rd_T92 l0 x8_1).f1, (rd_T92 l0 x8_1).f4, (rd_T92 l0 x8_1).f3⟩ : S92) [.string ((rd_T92 l0 x8_1).f0), .bool ((rd_T92 l0 x8_1).f2), .bool ((rd_T92 l0 x8_1).f1), .int .i64 ((rd_T92 l0 x8_1).f4), .int .i64 ((rd_T92 l0 x8_1).f3)] (fun k_ => k_ ≠ gb243) (fun _ => False) rfl (by first | (go_simp; done) | (go_simp; rfl)) ?aP (fun _ hk => hk.elim) ?aF ?aO ?aB ?aS ?aL ?_; (case aP => exact k92_mkM _ _ _ (⟨(rd_T92 l0 x8_1).f0, (rd_T92 l0 x8_1).f2, (rd_T92 l0 x8_1).f1, (rd_T92 l0 x8_1).f4, (rd_T92 l0 x8_1).f3⟩ : S92)); (case aB => exact (by repeat (first | (with_reducible first | exact HB.out | apply below_alloc | apply pw_below_drewN | apply below_drew1 | refine below_set ?_ GE243.out) | exact HB.out))); (case aF => exact (fun k_ hk => Kd.freshB (g := gb243) (o := .cells #[.string ((rd_T92 l0 x8_1).f0), .bool ((rd_T92 l0 x8_1).f1), .bool ((rd_T92 l0 x8_1).f2), .int .i64 ((rd_T92 l0 x8_1).f3), .int .i64 ((rd_T92 l0 x8_1).f4)] 92 (0, 0)) (by (with_reducible repeat (first | refine blk_drewN ?_ _ | refine blk_drew ?_ | refine blk_alloc ?_ _)); refine blk_put (cs := #[.string ((rd_T92 l0 x8_1).f0), .bool ((rd_T92 l0 x8_1).f1), .bool ((rd_T92 l0 x8_1).f2), .int .i64 ((rd_T92 l0 x8_1).f3), .int .i64 0]) ?_ 4 _ rfl; (with_reducible repeat (first | refine blk_drewN ?_ _ | refine blk_drew ?_ | refine blk_alloc ?_ _)); refine blk_put (cs := #[.string ((rd_T92 l0 x8_1).f0), .bool ((rd_T92 l0 x8_1).f1), .bool ((rd_T92 l0 x8_1).f2), .int .i64 0, .int .i64 0]) ?_ 3 _ rfl; (with_reducible repeat (first | refine blk_drewN ?_ _ | refine blk_drew ?_ | refine blk_alloc ?_ _)); refine blk_put (cs := #[.string ((rd_T92 l0 x8_1).f0), .bool ((rd_T92 l0 x8_1).f1), .bool false, .int .i64 0, .int .i64 0]) ?_ 2 _ rfl; (with_reducible repeat (first | refine blk_drewN ?_ _ | refine blk_drew ?_ | refine blk_alloc ?_ _)); refine blk_put (cs := #[.string ((rd_T92 l0 x8_1).f0), .bool false, .bool false, .int .i64 0, .int .i64 0]) ?_ 1 _ rfl; (with_reducible repeat (first | refine blk_drewN ?_ _ | refine blk_drew ?_ | refine blk_alloc ?_ _)); refine blk_put (cs := #[.string (⟨#[]⟩ : ByteArray), .bool false, .bool false, .int .i64 0, .int .i64 0]) ?_ 0 _ rfl; (with_reducible repeat (first | refine blk_drewN ?_ _ | refine blk_drew ?_ | refine blk_alloc ?_ _)); exact BK243.out) k_ hk)); (case aO => exact (by (with_reducible repeat (first | apply Kd.R_alloc | apply Kd.R_drewN | apply Kd.R_drew)); exact Kd.R_mono (Kd.R_far (p := ⟨gb243, 4, none⟩) (Kd.R_far (p := ⟨gb243, 3, none⟩) (Kd.R_far (p := ⟨gb243, 2, none⟩) (Kd.R_far (p := ⟨gb243, 1, none⟩) (Kd.R_far (p := ⟨gb243, 0, none⟩) (Kd.R_mono HO_3.out (fun k_ hk => (⟨hk, hk.2⟩ : _ ∧ k_ ≠ gb243))) (fun _ hk => hk.2) (.string ((rd_T92 l0 x8_1).f0))) (fun _ hk => hk.2) (.bool ((rd_T92 l0 x8_1).f1))) (fun _ hk => hk.2) (.bool ((rd_T92 l0 x8_1).f2))) (fun _ hk => hk.2) (.int .i64 ((rd_T92 l0 x8_1).f3))) (fun _ hk => hk.2) (.int .i64 ((rd_T92 l0 x8_1).f4))) (fun _ hk => hk.1.2))); (case aS => exact (below_size (by repeat (first | (with_reducible first | exact HB.out | apply below_alloc | apply pw_below_drewN | apply below_drew1 | refine below_set ?_ GE243.out) | exact HB.out)))); (case aL => have := LMc5.out; omega); intro v245 w8 ho hb hg hat; rw [← Ny244.out] at ho; have n0_ := Aside0.mk (blk_grown (g := gb243) (o := .cells #[.string ((rd_T92 l0 x8_1).f0), .bool ((rd_T92 l0 x8_1).f1), .bool ((rd_T92 l0 x8_1).f2), .int .i64 ((rd_T92 l0 x8_1).f3), .int .i64 ((rd_T92 l0 x8_1).f4)] 92 (0, 0)) (by (with_reducible repeat (first | refine blk_drewN ?_ _ | refine blk_drew ?_ | refine blk_alloc ?_ _)); refine blk_put (cs := #[.string ((rd_T92 l0 x8_1).f0), .bool ((rd_T92 l0 x8_1).f1), .bool ((rd_T92 l0 x8_1).f2), .int .i64 ((rd_T92 l0 x8_1).f3), .int .i64 0]) ?_ 4 _ rfl; (with_reducible repeat (first | refine blk_drewN ?_ _ | refine blk_drew ?_ | refine blk_alloc ?_ _)); refine blk_put (cs := #[.string ((rd_T92 l0 x8_1).f0), .bool ((rd_T92 l0 x8_1).f1), .bool ((rd_T92 l0 x8_1).f2), .int .i64 0, .int .i64 0]) ?_ 3 _ rfl; (with_reducible repeat (first | refine blk_drewN ?_ _ | refine blk_drew ?_ | refine blk_alloc ?_ _)); refine blk_put (cs := #[.string ((rd_T92 l0 x8_1).f0), .bool ((rd_T92 l0 x8_1).f1), .bool false, .int .i64 0, .int .i64 0]) ?_ 2 _ rfl; (with_reducible repeat (first | refine blk_drewN ?_ _ | refine blk_drew ?_ | refine blk_alloc ?_ _)); refine blk_put (cs := #[.string ((rd_T92 l0 x8_1).f0), .bool false, .bool false, .int .i64 0, .int .i64 0]) ?_ 1 _ rfl; (with_reducible repeat (first | refine blk_drewN ?_ _ | refine blk_drew ?_ | refine blk_alloc ?_ _)); refine blk_put (cs := #[.string (⟨#[]⟩ : ByteArray), .bool false, .bool false, .int .i64 0, .int .i64 0]) ?_ 0 _ rfl; (with_reducible repeat (first | refine blk_drewN ?_ _ | refine blk_drew ?_ | refine blk_alloc ?_ _)); exact BK243.out) hg (Kd.R_away HO_3.out (fun _ hk => hk.2))); have n1_ := Aside0.mk (hb); have n2_ := Aside0.mk (ho); clear BK243; clear HB; clear HO_3; have BK243 := n0_; have HB := n1_; have HO246 := n2_; clear n0_ n1_ n2_; clear ho hb hg hat))
              go_roundg k1
              case measure => have := HK1.out; omega
              case rel => exact ⟨(y244), (wrap64 (x8_1 + 1)), (by first | rfl | (simp; done) | (simp [*]; done)), H', ⟨by have := HK1.out; omega⟩, ⟨by (with_reducible repeat (first | apply Kd.R_alloc | apply Kd.R_drewN | apply Kd.R_drew)); exact Kd.R_mono HO246.out (fun _ hk => trivial)⟩, ⟨by repeat (first | (with_reducible first | exact HB.out | apply below_alloc | apply pw_below_drewN | apply below_drew1 | refine below_set ?_ GE243.out) | exact HB.out)⟩⟩
            · rw [if_neg c5] at H
              exact absurd H (by simp)
          · rw [if_neg c4] at H
            exact absurd H (by simp)
        · rw [if_neg c3] at H
          exact absurd H (by simp)
      · rw [if_neg c2] at H
        have c2b0 : decide (x8_1 < (l0.length : Int)) = false := decide_eq_false c2
        clear c2
        obtain rfl := Option.some.inj H
        go_wp2
        go_ret
        exact ⟨_, by first | rfl | (simp [errW_none, errW_some] <;> rfl) | (simp [*, errW_none, errW_some] <;> rfl), by (with_reducible repeat (first | apply Kd.R_alloc | apply Kd.R_drewN | apply Kd.R_drew)); exact HO_3.out, by repeat (first | (with_reducible first | exact HB.out | apply below_alloc | apply pw_below_drewN | apply below_drew1) | exact HB.out)⟩
end Go.Proofs.YtnegblckbomgdaaDoor.PA
end
end
section
section
-- Written by a program (the kit's print.py, called over functions of which some are replaced), then cut: Lean checks it.
namespace Go.Proofs.YtnegblckbomgdaaDoor.PA
open Go.RowKit Go.Proofs.YtnegblckbomgdaaDoorW.PrintWords Go.Proofs.YtnegblckbomgdaaDoorW.PrintLast Go.Proofs.YtnegblckbomgdaaDoorW.PrintMore
attribute [local go_sem] max2_int min2_int max_two min_two max_three min_three max_four min_four   -- for this text's walks alone
def placketref10_Alike.f (a0 : Int) (a1 : Int) (a2 : Int) : Option (Bool) := if a2 = 0 then (some (a0 == a1)) else (some ((Int.tmod a0 a2) == (Int.tmod a1 a2)))
set_option maxHeartbeats 8000000 in
set_option maxRecDepth 100000 in
theorem placketref10_Alike.calls (a0 : Int) (a1 : Int) (a2 : Int) (r : Bool) (w : World) (h : placketref10_Alike.f a0 a1 a2 = some r) :
    Calls Tryd.prog 51 #[.int .i64 a0, .int .i64 a1, .int .i64 a2] w fun e w' => e = .returned (.bool r) ∧ Drawn0 w w' := by
  have H : (if a2 = 0 then (some (a0 == a1)) else (some ((Int.tmod a0 a2) == (Int.tmod a1 a2)))) = some r := h
  clear h
  by_cases c4 : a2 = 0
  · rw [if_pos c4] at H
    have c4b0 : (a2 == 0) = true := beq_iff_eq.mpr c4
    have c4b1 : (a2 != 0) = false := bne_eq_false_iff_eq.mpr c4
    clear c4
    obtain rfl := Option.some.inj H
    go_enter Tryd.func51, Tryd.ntmps51
    go_wp2
    repeat (go_quiet (fail); try go_wp2)
    go_ret
    exact ⟨by first | rfl | (simp; done) | (simp [*]; done), by repeat (first | exact Drawn0.refl _ | apply Drawn0.step)⟩
  · rw [if_neg c4] at H
    have c4b0 : (a2 == 0) = false := beq_eq_false_iff_ne.mpr c4
    have c4b1 : (a2 != 0) = true := bne_iff_ne.mpr c4
    obtain rfl := Option.some.inj H
    go_enter Tryd.func51, Tryd.ntmps51
    go_wp2
    repeat (go_quiet (fail); try go_wp2)
    go_ret
    exact ⟨by first | rfl | (simp; done) | (simp [*]; done), by repeat (first | exact Drawn0.refl _ | apply Drawn0.step)⟩
-- NOT PRINTED: function 64 (placketref10_Union)
-- NOT PRINTED: function 54 (placketref10_Changes)
end Go.Proofs.YtnegblckbomgdaaDoor.PA
end
section
-- Written by a program (the kit's print.py, called over functions of which some are replaced), then cut: Lean checks it.
namespace Go.Proofs.YtnegblckbomgdaaDoor.PA
open Go.RowKit Go.Proofs.YtnegblckbomgdaaDoorW.PrintWords Go.Proofs.YtnegblckbomgdaaDoorW.PrintLast Go.Proofs.YtnegblckbomgdaaDoorW.PrintMore
attribute [local go_sem] max2_int min2_int max_two min_two max_three min_three max_four min_four   -- for this text's walks alone
def placketlaw10_equal.f (a0 : Int) (a1 : Int) : Option (Bool) := some (a0 == a1)
set_option maxHeartbeats 8000000 in
set_option maxRecDepth 100000 in
theorem placketlaw10_equal.calls (a0 : Int) (a1 : Int) (r : Bool) (w : World) (h : placketlaw10_equal.f a0 a1 = some r) :
    Calls Tryd.prog 69 #[.int .i64 a0, .int .i64 a1] w fun e w' => e = .returned (.bool r) ∧ Drawn0 w w' := by
  have H : (some (a0 == a1)) = some r := h
  clear h
  obtain rfl := Option.some.inj H
  go_enter Tryd.func69, Tryd.ntmps69
  go_wp2
  go_ret
  exact ⟨by first | rfl | (simp; done) | (simp [*]; done), by repeat (first | exact Drawn0.refl _ | apply Drawn0.step)⟩
-- NOT PRINTED: function 16 (placketlaw10_DictBack)
end Go.Proofs.YtnegblckbomgdaaDoor.PA
end
end
section
namespace Go.Proofs.YtnegblckbomgdaaDoor.Ht
open Go Go.RowKit Go.Shelf Go.Proofs.YtnegblckbomgdaaDoor.Mem Go.Proofs.YtnegblckbomgdaaDoor.PA Go.Proofs.YtnegblckbomgdaaDoorW.PrintWords Go.Proofs.YtnegblckbomgdaaDoor.U64 Go.Proofs.YtnegblckbomgdaaDoor.Bs Go.Proofs.YtnegblckbomgdaaDoor
abbrev Ch := S92
theorem lkp_over {M : List Pr} {k : ByteArray} (h : ∀ g ∈ M, klt k g.1 = true) : lkp M k = none := find_none fun e he h' => by have := h e he; rw [h', klt_self] at this; cases this
def ChV (w : World) (v : Value) (D : List Ch) : Prop := ∃ A c, v = .slice A D.length c ∧ D.length ≤ c ∧ Kd.C k92 w A D.length D
theorem ChV.below {w w' : World} {v : Value} {D : List Ch} (h : ChV w v D) (hb : Below w.heap.size w w') : ChV w' v D := by
  obtain ⟨A, c, h1, h2, h3⟩ := h
  exact ⟨A, c, h1, h2, Kd.C_below h3 hb⟩
theorem ChV.at {w : World} {A : Option Addr} {n c : Nat} {D : List Ch} (h : ChV w (.slice A n c) D) (j : Nat) (o : Ch) (ho : D[j]? = some o) :
    ∃ ad, A = some ad ∧ w.cell? (ad.add (j * 5)) = some (.string o.f0) ∧ w.cell? ⟨(ad.add (j * 5)).block, (ad.add (j * 5)).off + 1, none⟩ = some (.bool o.f1) ∧ w.cell? ⟨(ad.add (j * 5)).block, (ad.add (j * 5)).off + 2, none⟩ = some (.bool o.f2) ∧
      w.cell? ⟨(ad.add (j * 5)).block, (ad.add (j * 5)).off + 3, none⟩ = some (.int .i64 o.f3) ∧ w.cell? ⟨(ad.add (j * 5)).block, (ad.add (j * 5)).off + 4, none⟩ = some (.int .i64 o.f4) := by
  obtain ⟨A', c', he, h2, h3⟩ := h
  injection he with e1 e2 e3
  subst e1
  have hj := (List.getElem?_eq_some_iff.1 ho).1
  have := at_T92 h3 (j : Int) (by omega) (by omega)
  have e : rd_T92 D (j : Int) = o := by simp [rd_T92, List.getD_eq_getElem?_getD, ho]
  rw [e] at this
  simpa using this
theorem ChV.form {w : World} {v : Value} {D : List Ch} (h : ChV w v D) : ∃ A c, v = .slice A D.length c := by
  obtain ⟨A, c, h1, -⟩ := h
  exact ⟨A, c, h1⟩
end Go.Proofs.YtnegblckbomgdaaDoor.Ht
end
section
namespace Go.Proofs.YtnegblckbomgdaaDoor.Ht
open Go Go.RowKit Go.Shelf Go.Proofs.YtnegblckbomgdaaDoor.Mem Go.Proofs.YtnegblckbomgdaaDoor.PA Go.Proofs.YtnegblckbomgdaaDoorW.PrintWords Go.Proofs.YtnegblckbomgdaaDoor.U64 Go.Proofs.YtnegblckbomgdaaDoor.Bs Go.Proofs.YtnegblckbomgdaaDoor
def KB (m s : Nat) : Nat → Prop := fun x => x < m ∨ s ≤ x
def One (c : Cf) (y b : Int) (g : Nat) (w V0 : World) (n : Int) (p : Option Addr) (L : List Pr) (wr : World) : Prop :=
  wr.heap[g]? = some (.cells #[.int .u64 y, .int .i64 b, .int .i64 n, .pointer p] MT (0, 0)) ∧ (∀ x, x ≠ g → x < V0.heap.size → wr.heap[x]? = V0.heap[x]?) ∧
    MapV c (KB w.heap.size V0.heap.size) wr (.agg #[.int .u64 y, .int .i64 b, .int .i64 n, .pointer p]) L ∧ Below w.heap.size w wr ∧ V0.heap.size ≤ wr.heap.size
section
variable {c : Cf} {y b : Int} {g : Nat} {w V0 V w1 wr : World} {n n' : Int} {p p' : Option Addr} {L L' : List Pr} {K : Nat → Prop}
theorem One.below (h : One c y b g w V0 n p L wr) (hb : Below wr.heap.size wr w1) : One c y b g w V0 n p L w1 :=
  ⟨blk_below h.1 hb, fun x h1 h2 => (hb.block x (Nat.lt_of_lt_of_le h2 h.2.2.2.2)).trans (h.2.1 x h1 h2), h.2.2.1.below hb, below_trans h.2.2.2.1 hb, Nat.le_trans h.2.2.2.2 hb.size⟩
theorem One.srt (h : One c y b g w V0 n p L wr) : Srt L ∧ Sm L := by
  obtain ⟨p, -, -, h1, h2⟩ := h.2.2.1
  exact ⟨h1, h2⟩
theorem cuts_mv {n : Int} (hy : U c.1 = y) (hb : c.2 = b) (h : MapV c K V (.agg #[.int .u64 y, .int .i64 b, .int .i64 n, .pointer p]) L) (hl : L.length ≤ 1000) (k : ByteArray) (hk : k.size ≤ 1000000) (hT : Tab V) :
    Calls Tryd.prog 28 #[.agg #[.int .u64 y, .int .i64 b, .int .i64 n, .pointer p], .string k] V (Ret (fun v' w' => ∃ n' p', v' = .agg #[.int .u64 y, .int .i64 b, .int .i64 n', .pointer p'] ∧ MapV c (New K V) w' (.agg #[.int .u64 y, .int .i64 b, .int .i64 n', .pointer p']) (del L k)) V) :=
  ret_of (mcut_c c K _ L k hk V h (by omega) hT) fun v' w' hB hv => by
    have h0 := hv
    obtain ⟨p', rfl, -⟩ := hv
    exact ⟨_, p', by rw [← hy, ← hb], by rw [← hy, ← hb]; exact h0⟩
end
end Go.Proofs.YtnegblckbomgdaaDoor.Ht
end
section
section
-- PRINTED BY print.sh 35421559b90ae4d0a3588c463048766b98c2df88dd9212a6774a882060cdf62d: not written by this session
namespace Go.Proofs.YtnegblckbomgdaaDoorW.PrintWords
open Go.RowKit
section
variable {P : Program} {d : Nat} {xs ys : Array Value} {f : Field} {fs : List Field} {a b : Value} {r s : Bool} {w : World}
theorem eqf_last (hn : (f.name == "_") = false) (ha : (part f.type xs f.offset).run P w = .ok a w) (hb : (part f.type ys f.offset).run P w = .ok b w) (he : (Op.equalIn d f.type a b).run P w = .ok r w) : (Op.eqFields d xs ys [f]).run P w = .ok r w := by
  have hn' : f.name ≠ "_" := by simpa using hn
  simp only [Op.eqFields, if_pos hn', Sem.run_bind, ha, hb, he, Result.andThen_ok]
  cases r <;> simp
theorem eqf_cons (hn : (f.name == "_") = false) (ha : (part f.type xs f.offset).run P w = .ok a w) (hb : (part f.type ys f.offset).run P w = .ok b w) (he : (Op.equalIn d f.type a b).run P w = .ok r w) (hr : (Op.eqFields d xs ys fs).run P w = .ok s w) : (Op.eqFields d xs ys (f :: fs)).run P w = .ok (r && s) w := by
  have hn' : f.name ≠ "_" := by simpa using hn
  rw [Op.eqFields]
  simp only [if_pos hn', Sem.run_bind, ha, hb, he, Result.andThen_ok]
  cases r
  · simp
  · simpa using hr
theorem eqA_of {t : TypeId} {fs : Array Field} (hu : P.underlying t = some (.struct fs)) (hp : P.stoodInHeld t = false) (h : (Op.eqFields d xs ys fs.toList).run P w = .ok r w) : (Op.equalIn (d + 1) t (.agg xs) (.agg ys)).run P w = .ok r w := by
  have hf : P.fieldsOf t = fs := by simp [Program.fieldsOf, hu]
  rw [run_equalIn_struct (P := P) w d t xs ys (by rw [hf]; exact hu) hp, hf]
  exact h
end
end Go.Proofs.YtnegblckbomgdaaDoorW.PrintWords
end
end
section
namespace Go.Proofs.YtnegblckbomgdaaDoor.Ht
open Go Go.RowKit Go.Shelf Go.Proofs.YtnegblckbomgdaaDoor.Mem Go.Proofs.YtnegblckbomgdaaDoor.PA Go.Proofs.YtnegblckbomgdaaDoorW.PrintWords Go.Proofs.YtnegblckbomgdaaDoor.U64 Go.Proofs.YtnegblckbomgdaaDoor.Bs Go.Proofs.YtnegblckbomgdaaDoor
theorem eqConf (d : Nat) (w : World) (x0 y0 x1 y1 : Int) : (Op.equalIn (d + 2) 24 (.agg #[.int .u64 x0, .int .i64 x1]) (.agg #[.int .u64 y0, .int .i64 y1])).run Tryd.prog w = .ok (x0 == y0 && x1 == y1) w := by
  refine eqA_of Tryd.underlying24 (by kernel_rfl) ?_
  refine eqf_cons (by rfl) (by go_simp; rfl) (by go_simp; rfl) (by go_simp) ?_
  exact eqf_last (by rfl) (by go_simp; rfl) (by go_simp; rfl) (by go_simp)
attribute [local go_sem high] eqConf
set_option maxHeartbeats 1000000 in
theorem conf_w' (y bits n : Int) (p : Option Addr) (w : World) : Calls Tryd.prog 32 #[.agg #[.int .u64 y, .int .i64 bits, .int .i64 n, .pointer p]] w (Ret (fun v _ => v = .agg #[.int .u64 y, .int .i64 bits]) w) := by
  go_enter Tryd.func32, Tryd.ntmps32
  go_wp2
  refine bodyPost_ret (results_c1 rfl _ _ (w.heap.size + 1) 24 #[.int .u64 y, .int .i64 bits] (0, 0) _ rfl (heap_k1 w _ _) Tryd.underlying24 rfl (by kernel_rfl)) rfl ?_
  exact ⟨_, rfl, rfl, ((Below.refl _ _).alloc (Nat.le_refl _) _).alloc (by simp) _⟩
def SmI (w : World) (m0 m1 m2 m3 q0 q1 s t : Value) (n k : Nat) (v26 : Value) (wr : World) (_u : Unit) : Prop :=
  ∃ j : Nat, v26 = .int .i64 (j : Int) ∧ j + k = n ∧ wr.heap[w.heap.size]? = some (.cells #[m0, m1, m2, m3] MT (0, 0)) ∧ wr.heap[w.heap.size + 1]? = some (.cells #[q0, q1] CT (0, 0)) ∧ wr.heap[w.heap.size + 1 + 1]? = some (.cells #[s, t] RT (0, 0)) ∧ Below w.heap.size w wr
set_option maxRecDepth 100000 in
set_option maxHeartbeats 8000000 in
theorem sames_w (c : Cf) (K K' : Nat → Prop) (L : List Pr) (N : Nat) (y b n : Int) (p : Option Addr) (A1 A2 : Option Addr) (c1 c2 : Nat) (w : World) (hN : N = L.length) (hS : Srt L) (hSm : Sm L)
    (hM : MapV c K w (.agg #[.int .u64 y, .int .i64 b, .int .i64 n, .pointer p]) L) (h1 : SlV K' w (.slice A1 N c1) (ksV L)) (h2 : SlV K' w (.slice A2 N c2) (xsV L)) (hl : L.length ≤ 1000) (hT : Tab w) :
    Calls Tryd.prog 57 #[.agg #[.int .u64 y, .int .i64 b, .int .i64 n, .pointer p], .agg #[.int .u64 y, .int .i64 b], .agg #[.slice A1 N c1, .slice A2 N c2]] w (Ret (fun r _ => r = .bool true) w) := by
  have HCf := Lib.hid fun V => (show Calls Tryd.prog 32 #[.agg #[.int .u64 y, .int .i64 b, .int .i64 n, .pointer p]] V (Ret (fun v _ => v = .agg #[.int .u64 y, .int .i64 b]) V) from conf_w' y b n p V)
  have HLen := Lib.hid fun V (hw : Below w.heap.size w V) => mlen_c c K _ L V (hM.below hw)
  rw [← hN] at HLen
  have HKey := Lib.hid fun V (hw : Below w.heap.size w V) => keys_c c K _ L V (hM.below hw) hl (hT.below hw)
  have HWd := Lib.hid fun (u : Value) (J : Nat → Prop) V (hu : SlV J V u (ksV L)) (hw : Below w.heap.size w V) => words_c J K' u _ L L (by omega) V hu (h1.below hw)
  have HGet := Lib.hid fun (j : Nat) (e : Pr) (he : L[j]? = some e) V (hw : Below w.heap.size w V) => (show Calls Tryd.prog 27 #[.agg #[.int .u64 y, .int .i64 b, .int .i64 n, .pointer p], .string e.1] V (Ret (fun v _ => v = .tuple #[.int .i64 e.2, .bool true]) V) from got_at' hS he ▸ mget_c c K _ L e.1 (hSm e (List.mem_of_getElem? he)) V (hM.below hw) (by omega))
  have H1 := Lib.hid h1; have H2 := Lib.hid h2; have HN := Lib.hid hN
  have hnn : (N : Int) ≤ 1000 := by omega
  simp only [decide_true] at HWd
  clear hM h1 h2 hl hT hS hSm hN
  have HB := Lib.hid ((((Below.refl w.heap.size w).alloc (Nat.le_refl _) (.cells #[.int .u64 y, .int .i64 b, .int .i64 n, .pointer p] MT)).alloc (by simp) (.cells #[.int .u64 y, .int .i64 b] CT)).alloc (by simp; omega) (.cells #[.slice A1 N c1, .slice A2 N c2] RT))
  have HB0 := Lib.hid (blk_alloc (blk_alloc (blk_new w (.cells #[.int .u64 y, .int .i64 b, .int .i64 n, .pointer p] MT)) (.cells #[.int .u64 y, .int .i64 b] CT)) (.cells #[.slice A1 N c1, .slice A2 N c2] RT))
  have HB1 := Lib.hid (blk_alloc (heap_k1 w (.cells #[.int .u64 y, .int .i64 b, .int .i64 n, .pointer p] MT) (.cells #[.int .u64 y, .int .i64 b] CT)) (.cells #[.slice A1 N c1, .slice A2 N c2] RT))
  have HB2 := Lib.hid (heap_k2 w (.cells #[.int .u64 y, .int .i64 b, .int .i64 n, .pointer p] MT) (.cells #[.int .u64 y, .int .i64 b] CT) (.cells #[.slice A1 N c1, .slice A2 N c2] RT))
  go_enter Tryd.func57, Tryd.ntmps57
  go_upto_region 1 with fail
  generalize ((w.alloc (.cells #[.int .u64 y, .int .i64 b, .int .i64 n, .pointer p] MT)).alloc (.cells #[.int .u64 y, .int .i64 b] CT)).alloc (.cells #[.slice A1 N c1, .slice A2 N c2] RT) = V at *
  obtain ⟨⟨a0, a1, a2, a3⟩, -⟩ := box4 HB0.out
  obtain ⟨⟨q0, q1⟩, -⟩ := box2 HB1.out
  obtain ⟨⟨r0, r1⟩, -⟩ := box2 HB2.out
  have hg : w.heap.size ≤ V.heap.size := HB.out.size
  go_region_held3 (fun w' => (w'.cell? ⟨w.heap.size, 0, none⟩ = some (.int .u64 y) ∧ w'.cell? ⟨w.heap.size, 1, none⟩ = some (.int .i64 b) ∧ w'.cell? ⟨w.heap.size, 2, none⟩ = some (.int .i64 n) ∧ w'.cell? ⟨w.heap.size, 3, none⟩ = some (.pointer p)) ∧ (w'.cell? ⟨w.heap.size + 1, 0, none⟩ = some (.int .u64 y) ∧ w'.cell? ⟨w.heap.size + 1, 1, none⟩ = some (.int .i64 b)) ∧ w'.cell? ⟨w.heap.size + 1 + 1, 0, none⟩ = some (.slice A1 N c1))
    ((refine ⟨⟨?_, ?_, ?_, ?_⟩, ⟨?_, ?_⟩, ?_⟩ <;> first | (with_reducible assumption) | (with_reducible exact cell_below a0 (by assumption)) | (with_reducible exact cell_below a1 (by assumption)) | (with_reducible exact cell_below a2 (by assumption)) | (with_reducible exact cell_below a3 (by assumption)) | (with_reducible exact cell_below q0 (by assumption)) | (with_reducible exact cell_below q1 (by assumption)) | (with_reducible exact cell_below r0 (by assumption)) | (go_keep; done)))
    (first
      | (go_at_call 32; (with_reducible refine (HCf.out _).mono ?_); rintro e w5 ⟨v, rfl, rfl, hb5⟩; have hb5 := below_trans (w1 := World.drew _) (Below.refl _ _).drew hb5)
      | (go_at_call 26; (with_reducible refine (HKey.out _ (below_trans HB.out hb5)).mono ?_); rintro e w6 ⟨v, rfl, hk6, hb6⟩; have hb6 := below_trans hb5 hb6)
      | (go_at_call 30; (with_reducible refine (HWd.out _ _ _ hk6 (below_trans HB.out hb6)).mono ?_); rintro e w7 ⟨v, rfl, rfl, hb7⟩; have hb7 := below_trans hb6 hb7)
      | fail)
  have HB7 := Lib.hid (below_trans HB.out hb7)
  have HM7 := Lib.hid (blk_below HB0.out hb7); have HQ7 := Lib.hid (blk_below HB1.out hb7); have HR7 := Lib.hid (blk_below HB2.out hb7)
  clear hb5 hb6 hb7 hk6 a0 a1 a2 a3 q0 q1 r0 r1
  obtain ⟨⟨r0, r1⟩, -⟩ := box2 HR7.out
  go_wp2_with fail
  go_loopg [26] N (fun k v26 wr => Aside (SmI w (.int .u64 y) (.int .i64 b) (.int .i64 n) (.pointer p) (.int .u64 y) (.int .i64 b) (.slice A1 N c1) (.slice A2 N c2) N k v26 wr ()))
  case atStart =>
    show SmI _ _ _ _ _ _ _ _ _ _ _ _ _ _
    exact ⟨0, rfl, by omega, HM7.out, HQ7.out, HR7.out, HB7.out⟩
  case round =>
    obtain ⟨j, rfl, hj, BM, BQ, BR, hB⟩ := hrel.out
    clear hrel r0 r1
    by_cases hlt : j < N
    · have hltI : (j : Int) < (N : Int) := by omega
      obtain ⟨gk, rfl⟩ : ∃ g, gk = g + 1 := ⟨gk - 1, by omega⟩
      obtain ⟨⟨ek, ex⟩, he⟩ : ∃ e, L[j]? = some e := ⟨_, List.getElem?_eq_getElem (by rw [← HN.out]; exact hlt)⟩
      obtain ⟨ad, rfl, hk⟩ := H1.out.addr (by rw [ksV_length, ← HN.out]; omega)
      obtain ⟨ae, rfl, hx⟩ := H2.out.addr (by rw [xsV_length, ← HN.out]; omega)
      have hk := cell_below (hk j (.string ek) (by simp [ksV, he])) hB
      have hx := hx j (.int .i64 ex) (by simp [xsV, he])
      have HX := Lib.hid hx
      have HG := Lib.hid (HGet.out j _ he _ hB)
      dsimp only at HG
      obtain ⟨⟨a0, a1, a2, a3⟩, -⟩ := box4 BM
      have HBM := Lib.hid BM; have HBQ := Lib.hid BQ; have HBR := Lib.hid BR; have HBB := Lib.hid hB
      clear BM BQ BR hB hx he
      go_wp2_with (first
        | (go_at_call 27; ((with_reducible refine (HG.out).mono ?_); rintro e w8 ⟨v, rfl, rfl, hb8⟩; obtain ⟨⟨r0, r1⟩, -⟩ := box2 (blk_below HBR.out hb8); have hx := cell_below HX.out (below_trans HBB.out hb8); have HB8 := Lib.hid hb8; clear hb8))
        | fail)
      go_roundg gk
      case measure => omega
      case rel =>
        show SmI _ _ _ _ _ _ _ _ _ _ _ _ _ _
        exact ⟨j + 1, by first | rfl | (push_cast; rfl), by omega, blk_below HBM.out HB8.out, blk_below HBQ.out HB8.out, blk_below HBR.out HB8.out, below_trans HBB.out HB8.out⟩
    · have HBB := Lib.hid hB
      obtain ⟨⟨a0, a1, a2, a3⟩, -⟩ := box4 BM
      obtain ⟨⟨r0, r1⟩, -⟩ := box2 BR
      clear BM BQ BR hB
      go_upto_region 10 with fail
      go_region_held3 (fun w' => (w'.cell? ⟨w.heap.size, 0, none⟩ = some (.int .u64 y) ∧ w'.cell? ⟨w.heap.size, 1, none⟩ = some (.int .i64 b) ∧ w'.cell? ⟨w.heap.size, 2, none⟩ = some (.int .i64 n) ∧ w'.cell? ⟨w.heap.size, 3, none⟩ = some (.pointer p)) ∧ w'.cell? ⟨w.heap.size + 1 + 1, 0, none⟩ = some (.slice A1 N c1))
        ((refine ⟨⟨?_, ?_, ?_, ?_⟩, ?_⟩ <;> first | (with_reducible assumption) | (with_reducible exact cell_below a0 (by assumption)) | (with_reducible exact cell_below a1 (by assumption)) | (with_reducible exact cell_below a2 (by assumption)) | (with_reducible exact cell_below a3 (by assumption)) | (with_reducible exact cell_below r0 (by assumption)) | (go_keep; done)))
        (first
          | (go_at_call 29; (with_reducible refine (HLen.out _ (HBB.out.drew)).mono ?_); rintro e w9 ⟨v, rfl, rfl, hb9⟩; have hb9 := below_trans (w1 := World.drew _) (Below.refl _ _).drew hb9)
          | fail)
      have HEND := Lib.hid (below_trans HBB.out hb9)
      go_wp2_with fail
      go_returns
      exact ⟨_, rfl, rfl, HEND.out⟩
theorem sames_c (c : Cf) (K K' : Nat → Prop) (y b n : Int) (p : Option Addr) (u : Value) (L : List Pr) (w : World) (hM : MapV c K w (.agg #[.int .u64 y, .int .i64 b, .int .i64 n, .pointer p]) L) (hR : RefV K' w u L) (hl : L.length ≤ 1000) (hT : Tab w) :
    Calls Tryd.prog 57 #[.agg #[.int .u64 y, .int .i64 b, .int .i64 n, .pointer p], .agg #[.int .u64 y, .int .i64 b], u] w (Ret (fun r _ => r = .bool true) w) := by
  obtain ⟨-, -, -, -, -, -, hS, hSm⟩ := mform hM
  obtain ⟨s, t, rfl, h1, h2⟩ := hR
  obtain ⟨A1, c1, rfl⟩ := SlV.form' h1
  obtain ⟨A2, c2, rfl⟩ := SlV.form' h2
  rw [ksV_length] at h1 ⊢
  rw [xsV_length] at h2 ⊢
  exact sames_w c K K' L L.length y b n p A1 A2 c1 c2 w rfl hS hSm hM h1 h2 hl hT
def CellsV (w : World) (v : Value) (D : List Ch) : Prop := ∃ A c, v = .slice A D.length c ∧ (0 < D.length → ∃ ad : Addr, A = some ad ∧ ∀ (j : Nat) (o : Ch), D[j]? = some o →
  w.cell? (ad.add (j * 5)) = some (.string o.f0) ∧ w.cell? ⟨(ad.add (j * 5)).block, (ad.add (j * 5)).off + 1, none⟩ = some (.bool o.f1) ∧ w.cell? ⟨(ad.add (j * 5)).block, (ad.add (j * 5)).off + 2, none⟩ = some (.bool o.f2) ∧
      w.cell? ⟨(ad.add (j * 5)).block, (ad.add (j * 5)).off + 3, none⟩ = some (.int .i64 o.f3) ∧ w.cell? ⟨(ad.add (j * 5)).block, (ad.add (j * 5)).off + 4, none⟩ = some (.int .i64 o.f4))
theorem CellsV.below {w w' : World} {v : Value} {D : List Ch} (h : CellsV w v D) (hb : Below w.heap.size w w') : CellsV w' v D := by
  obtain ⟨A, c, h1, h2⟩ := h
  refine ⟨A, c, h1, fun hp => ?_⟩
  obtain ⟨ad, e, h3⟩ := h2 hp
  refine ⟨ad, e, fun j o ho => ?_⟩
  obtain ⟨k0, k1, k2, k3, k4⟩ := h3 j o ho
  exact ⟨cell_below k0 hb, cell_below k1 hb, cell_below k2 hb, cell_below k3 hb, cell_below k4 hb⟩
theorem CellsV.at {w : World} {A : Option Addr} {n c : Nat} {D : List Ch} (h : CellsV w (.slice A n c) D) (j : Nat) (o : Ch) (ho : D[j]? = some o) :
    ∃ ad, A = some ad ∧ w.cell? (ad.add (j * 5)) = some (.string o.f0) ∧ w.cell? ⟨(ad.add (j * 5)).block, (ad.add (j * 5)).off + 1, none⟩ = some (.bool o.f1) ∧ w.cell? ⟨(ad.add (j * 5)).block, (ad.add (j * 5)).off + 2, none⟩ = some (.bool o.f2) ∧
      w.cell? ⟨(ad.add (j * 5)).block, (ad.add (j * 5)).off + 3, none⟩ = some (.int .i64 o.f3) ∧ w.cell? ⟨(ad.add (j * 5)).block, (ad.add (j * 5)).off + 4, none⟩ = some (.int .i64 o.f4) := by
  obtain ⟨A', c', he, h2⟩ := h
  injection he with e1 e2 e3
  subst e1
  have hj := (List.getElem?_eq_some_iff.1 ho).1
  obtain ⟨ad, e, h3⟩ := h2 (by omega)
  exact ⟨ad, e, h3 j o ho⟩
def OneR (g : Nat) (w V0 : World) (s t : Value) (L : List Pr) (wr : World) : Prop :=
  wr.heap[g]? = some (.cells #[s, t] RT (0, 0)) ∧ (∀ x, x ≠ g → x < V0.heap.size → wr.heap[x]? = V0.heap[x]?) ∧ RefV (KB w.heap.size V0.heap.size) wr (.agg #[s, t]) L ∧ Below w.heap.size w wr ∧ V0.heap.size ≤ wr.heap.size
section
variable {g : Nat} {w V0 V w1 wr : World} {s t s' t' : Value} {L L' : List Pr} {K : Nat → Prop}
theorem OneR.below (h : OneR g w V0 s t L wr) (hb : Below wr.heap.size wr w1) : OneR g w V0 s t L w1 :=
  ⟨blk_below h.1 hb, fun x h1 h2 => (hb.block x (Nat.lt_of_lt_of_le h2 h.2.2.2.2)).trans (h.2.1 x h1 h2), h.2.2.1.below hb, below_trans h.2.2.2.1 hb, Nat.le_trans h.2.2.2.2 hb.size⟩
theorem OneR.form (h : OneR g w V0 s t L wr) : ∃ A1 n1 c1 A2 n2 c2, s = .slice A1 n1 c1 ∧ t = .slice A2 n2 c2 := by
  obtain ⟨s', t', e, h1, h2⟩ := h.2.2.1
  simp only [Value.agg.injEq, Array.mk.injEq, List.cons.injEq, and_true] at e
  obtain ⟨rfl, rfl⟩ := e
  obtain ⟨A1, n1, c1, rfl⟩ := h1.form
  obtain ⟨A2, n2, c2, rfl⟩ := h2.form
  exact ⟨A1, n1, c1, A2, n2, c2, rfl, rfl⟩
end
end Go.Proofs.YtnegblckbomgdaaDoor.Ht
end
