/- A map made of pairs, and the document's: the walk. -/
import Derived.Test.YtnegblckbomgdaaDoorDcC
import Derived.Deep.DeepCutAuto
set_option linter.unusedVariables false
set_option linter.unusedSimpArgs false
namespace Go.Proofs.YtnegblckbomgdaaDoor.Ht
open Go Go.RowKit Go.Shelf Go.Proofs.YtnegblckbomgdaaDoor.Mem Go.Proofs.YtnegblckbomgdaaDoor.PA Go.Proofs.YtnegblckbomgdaaDoorW.PrintWords Go.Proofs.YtnegblckbomgdaaDoor.U64 Go.Proofs.YtnegblckbomgdaaDoor

/-- all but the four boxes of 'made' -/
def KQ (r g : Nat) : Nat → Prop := fun x => x ≠ r ∧ x ≠ r + 1 ∧ x ≠ g ∧ x ≠ g + 1
/-- the boxes of the results -/
def Qb (W : World) (r : Nat) (wr : World) : Prop :=
  wr.heap[r]? = some (.cells #[.int .u64 0, .int .i64 0, .int .i64 0, .pointer none] MT (0, 0)) ∧ wr.heap[r + 1]? = some (.cells #[.slice none 0 0, .slice none 0 0] RT (0, 0)) ∧ Below W.heap.size W wr
def MdI (c : Cf) (y b : Int) (W : World) (r g T k : Nat) (v14 : Value) (wr : World) (_u : Unit) : Prop :=
  ∃ (i : Nat) (n : Int) (p : Option Addr) (s t : Value) (L : List Pr), v14 = .int .i64 (i : Int) ∧ i + k = T ∧ L.length ≤ i ∧ TwK (KQ r g) c y b g n p s t L wr ∧ Qb W r wr
theorem twk_start (c : Cf) (y b : Int) (K : Nat → Prop) (hy : U c.1 = y) (hb : c.2 = b) (w3 : World) :
    TwK K c y b w3.heap.size 0 none (.slice none 0 0) (.slice none 0 0) [] ((w3.alloc (.cells #[.int .u64 y, .int .i64 b, .int .i64 0, .pointer none] MT)).alloc (.cells #[.slice none 0 0, .slice none 0 0] RT)) :=
  ⟨blk_alloc (blk_new w3 _) _, heap_k1 w3 _ _, ⟨none, by rw [← hy, ← hb]; rfl, Or.inl ⟨rfl, rfl⟩, srt_nil, fun e he => by cases he⟩, _, _, rfl, SlV.nil _ _, SlV.nil _ _⟩
/-- what 'made' gives -/
def Made (c : Cf) (y b : Int) (N : Nat) (u : Value) (w : World) : Prop :=
  ∃ (L : List Pr) (n : Int) (p : Option Addr) (A1 : Option Addr) (n1 c1 : Nat) (A2 : Option Addr) (n2 c2 : Nat), u = .tuple #[.agg #[.int .u64 y, .int .i64 b, .int .i64 n, .pointer p], .agg #[.slice A1 n1 c1, .slice A2 n2 c2]] ∧ L.length ≤ N ∧
    MapV c (fun _ => True) w (.agg #[.int .u64 y, .int .i64 b, .int .i64 n, .pointer p]) L ∧ RefV (fun _ => True) w (.agg #[.slice A1 n1 c1, .slice A2 n2 c2]) L

theorem made_end {c : Cf} {y b : Int} {g r : Nat} {n : Int} {p : Option Addr} {A1 A2 : Option Addr} {n1 c1 n2 c2 : Nat} {L : List Pr} {V W : World} (h : TwK (KQ r g) c y b g n p (.slice A1 n1 c1) (.slice A2 n2 c2) L V) (hQ : Qb W r V) (hL : L.length ≤ 80) (hW : W.heap.size ≤ r) :
    (((put4w V r (.int .u64 y) (.int .i64 b) (.int .i64 n) (.pointer p)).setCell ⟨r + 1, 0, none⟩ (.slice A1 n1 c1)).setCell ⟨r + 1, 1, none⟩ (.slice A2 n2 c2)).drew.heap[r]? = some (.cells #[.int .u64 y, .int .i64 b, .int .i64 n, .pointer p] MT (0, 0)) ∧
    (((put4w V r (.int .u64 y) (.int .i64 b) (.int .i64 n) (.pointer p)).setCell ⟨r + 1, 0, none⟩ (.slice A1 n1 c1)).setCell ⟨r + 1, 1, none⟩ (.slice A2 n2 c2)).drew.heap[r + 1]? = some (.cells #[.slice A1 n1 c1, .slice A2 n2 c2] RT (0, 0)) ∧
    Made c y b 80 (.tuple #[.agg #[.int .u64 y, .int .i64 b, .int .i64 n, .pointer p], .agg #[.slice A1 n1 c1, .slice A2 n2 c2]]) (((put4w V r (.int .u64 y) (.int .i64 b) (.int .i64 n) (.pointer p)).setCell ⟨r + 1, 0, none⟩ (.slice A1 n1 c1)).setCell ⟨r + 1, 1, none⟩ (.slice A2 n2 c2)).drew ∧
    Below W.heap.size W (((put4w V r (.int .u64 y) (.int .i64 b) (.int .i64 n) (.pointer p)).setCell ⟨r + 1, 0, none⟩ (.slice A1 n1 c1)).setCell ⟨r + 1, 1, none⟩ (.slice A2 n2 c2)).drew := by
  have n0 : ¬ KQ r g r := fun h => h.1 rfl
  have n1' : ¬ KQ r g (r + 1) := fun h => h.2.1 rfl
  refine ⟨?_, ?_, ⟨L, n, p, A1, n1, c1, A2, n2, c2, rfl, hL, ?_, ?_⟩, ?_⟩
  · exact blk_drew <| blk_far (blk_far (put4 hQ.1) (p := ⟨r + 1, 0, none⟩) (show r ≠ r + 1 by omega) _) (p := ⟨r + 1, 1, none⟩) (show r ≠ r + 1 by omega) _
  · exact blk_drew <| put2 (blk_far (blk_far (blk_far (blk_far hQ.2.1 (p := ⟨r, 0, none⟩) (show r + 1 ≠ r by omega) _) (p := ⟨r, 1, none⟩) (show r + 1 ≠ r by omega) _) (p := ⟨r, 2, none⟩) (show r + 1 ≠ r by omega) _) (p := ⟨r, 3, none⟩) (show r + 1 ≠ r by omega) _)
  · exact ((mapv_far (mapv_far (mapv_far (mapv_far (mapv_far (mapv_far h.2.2.1 _ 0 _ n0) _ 1 _ n0) _ 2 _ n0) _ 3 _ n0) _ 0 _ n1') _ 1 _ n1').mono fun _ _ => trivial).below ((Below.refl _ _).drew)
  · exact ((refv_far (refv_far (refv_far (refv_far (refv_far (refv_far h.2.2.2 _ 0 _ n0) _ 1 _ n0) _ 2 _ n0) _ 3 _ n0) _ 0 _ n1') _ 1 _ n1').mono fun _ _ => trivial).below ((Below.refl _ _).drew)
  · exact (two_below hW hQ.2.2 (Below.refl _ _) (Below.refl _ _) _ _ _ _ _ _).drew

theorem qb_put {W V w1 w2 : World} {r g : Nat} (hg : r + 1 < g) (hW : W.heap.size ≤ r) (h : Qb W r V) (h1 : Below V.heap.size V w1) (h2 : Below w1.heap.size w1 w2) (a b c d e f : Value) :
    Qb W r (((put4w w2 g a b c d).setCell ⟨g + 1, 0, none⟩ e).setCell ⟨g + 1, 1, none⟩ f) :=
  have h12 := below_trans h1 h2
  ⟨blk_far (blk_far (blk_far (blk_far (blk_far (blk_far (blk_below h.1 h12) (p := ⟨g, 0, none⟩) (show r ≠ g by omega) _) (p := ⟨g, 1, none⟩) (show r ≠ g by omega) _) (p := ⟨g, 2, none⟩) (show r ≠ g by omega) _) (p := ⟨g, 3, none⟩) (show r ≠ g by omega) _) (p := ⟨g + 1, 0, none⟩) (show r ≠ g + 1 by omega) _) (p := ⟨g + 1, 1, none⟩) (show r ≠ g + 1 by omega) _,
   blk_far (blk_far (blk_far (blk_far (blk_far (blk_far (blk_below h.2.1 h12) (p := ⟨g, 0, none⟩) (show r + 1 ≠ g by omega) _) (p := ⟨g, 1, none⟩) (show r + 1 ≠ g by omega) _) (p := ⟨g, 2, none⟩) (show r + 1 ≠ g by omega) _) (p := ⟨g, 3, none⟩) (show r + 1 ≠ g by omega) _) (p := ⟨g + 1, 0, none⟩) (show r + 1 ≠ g + 1 by omega) _) (p := ⟨g + 1, 1, none⟩) (show r + 1 ≠ g + 1 by omega) _,
   two_below (by omega) h.2.2 h1 h2 _ _ _ _ _ _⟩

set_option maxRecDepth 100000 in
set_option maxHeartbeats 8000000 in
theorem made_w (c : Cf) (v : Value) (os : List S2) (y b : Int) (hy : U c.1 = y) (hb : c.2 = b) (W : World) (hO : PairsV W v os) (hl : os.length ≤ 80) (hk : ∀ o ∈ os, o.f0.size ≤ 200) :
    Calls Tryd.prog 38 #[.agg #[.int .u64 y, .int .i64 b], v] W (Ret (fun u w' => Made c y b 80 u w') W) := by
  obtain ⟨As, cs, rfl, -⟩ := id hO
  have HO := Lib.hid hO; have HK := Lib.hid hk; have HY := Lib.hid hy; have HBE := Lib.hid hb
  have HNW := Lib.hid (fun V => (show Calls Tryd.prog 19 #[.agg #[.int .u64 y, .int .i64 b]] V (Ret (fun v _ => v = .agg #[.int .u64 y, .int .i64 b, .int .i64 0, .pointer none]) V) from new_w y b V))
  obtain ⟨T, hTe⟩ : ∃ T, T = os.length := ⟨_, rfl⟩
  rw [← hTe] at HO hl ⊢
  have HTE := Lib.hid hTe
  clear hO hk hTe hy hb
  have hB0 := (((Below.refl W.heap.size W).alloc (Nat.le_refl _) (.cells #[.int .u64 y, .int .i64 b] CT)).alloc (by simp) (.cells #[.int .u64 0, .int .i64 0, .int .i64 0, .pointer none] MT)).alloc (by simp; omega) (.cells #[.slice none 0 0, .slice none 0 0] RT)
  have BC := blk_alloc (blk_alloc (blk_new W (.cells #[.int .u64 y, .int .i64 b] CT)) (.cells #[.int .u64 0, .int .i64 0, .int .i64 0, .pointer none] MT)) (.cells #[.slice none 0 0, .slice none 0 0] RT)
  have RB1 := blk_alloc (heap_k1 W (.cells #[.int .u64 y, .int .i64 b] CT) (.cells #[.int .u64 0, .int .i64 0, .int .i64 0, .pointer none] MT)) (.cells #[.slice none 0 0, .slice none 0 0] RT)
  have RB2 := heap_k2 W (.cells #[.int .u64 y, .int .i64 b] CT) (.cells #[.int .u64 0, .int .i64 0, .int .i64 0, .pointer none] MT) (.cells #[.slice none 0 0, .slice none 0 0] RT)
  have HB0 := Lib.hid hB0
  have HQ0 := Lib.hid (show Qb W (W.heap.size + 1) (((W.alloc (.cells #[.int .u64 y, .int .i64 b] CT)).alloc (.cells #[.int .u64 0, .int .i64 0, .int .i64 0, .pointer none] MT)).alloc (.cells #[.slice none 0 0, .slice none 0 0] RT)) from ⟨RB1, RB2, hB0⟩)
  obtain ⟨⟨a0, a1⟩, -⟩ := box2 BC
  have hr2 : W.heap.size + 1 + 1 < (((W.alloc (.cells #[.int .u64 y, .int .i64 b] CT)).alloc (.cells #[.int .u64 0, .int .i64 0, .int .i64 0, .pointer none] MT)).alloc (.cells #[.slice none 0 0, .slice none 0 0] RT)).heap.size := blk_lt RB2
  have HR2 := Lib.hid hr2
  clear hB0 BC RB1 RB2 hr2
  go_enter Tryd.func38, Tryd.ntmps38
  go_wp2_with (first
    | (go_at_call 19; ((with_reducible refine (HNW.out _).mono ?_); rintro e w3 ⟨v, rfl, rfl, hb3⟩; have HB3 := Lib.hid hb3; clear hb3))
    | fail)
  have hQ3 : Qb W (W.heap.size + 1) w3 := ⟨blk_below HQ0.out.1 HB3.out, blk_below HQ0.out.2.1 HB3.out, below_trans HB0.out HB3.out⟩
  have h3s := hQ3.2.2.size
  have hgw : W.heap.size + 1 + 1 < w3.heap.size := Nat.lt_of_lt_of_le HR2.out HB3.out.size
  have HQ4 := Lib.hid (show Qb W (W.heap.size + 1) ((w3.alloc (.cells #[.int .u64 y, .int .i64 b, .int .i64 0, .pointer none] MT)).alloc (.cells #[.slice none 0 0, .slice none 0 0] RT)) from ⟨blk_alloc (blk_alloc hQ3.1 _) _, blk_alloc (blk_alloc hQ3.2.1 _) _, (hQ3.2.2.alloc h3s (.cells #[.int .u64 y, .int .i64 b, .int .i64 0, .pointer none] MT)).alloc (by simp; omega) (.cells #[.slice none 0 0, .slice none 0 0] RT)⟩)
  have HW4 := Lib.hid (twk_start c y b (KQ (W.heap.size + 1) w3.heap.size) HY.out HBE.out w3)
  have hrW : W.heap.size ≤ W.heap.size + 1 := Nat.le_succ _
  clear a0 a1 hQ3 h3s HB3 HQ0 HB0 HR2
  generalize (w3.alloc (.cells #[.int .u64 y, .int .i64 b, .int .i64 0, .pointer none] MT)).alloc (.cells #[.slice none 0 0, .slice none 0 0] RT) = W4 at *
  generalize w3.heap.size = g at *
  generalize W.heap.size + 1 = r at HQ4 HW4 hgw hrW ⊢
  have HN0 := Lib.hid (show ¬ KQ r g g from fun h => h.2.2.1 rfl)
  have HN1 := Lib.hid (show ¬ KQ r g (g + 1) from fun h => h.2.2.2 rfl)
  go_loopg [14] T (fun k v14 wr => Aside (MdI c y b W r g T k v14 wr ()))
  case atStart =>
    show MdI _ _ _ _ _ _ _ _ _ _ _
    exact ⟨0, _, _, _, _, _, rfl, by omega, by simp, HW4.out, HQ4.out⟩
  case round =>
    obtain ⟨i, n, p, s, t, L, rfl, hiT, hLi, hTw, hQ⟩ := hrel.out
    clear hrel HW4 HQ4
    obtain ⟨A1, n1, c1, A2, n2, c2, rfl, rfl⟩ := hTw.form
    by_cases hlt : i < T
    · have hltI : (i : Int) < (T : Int) := by omega
      obtain ⟨o, ho⟩ : ∃ o, os[i]? = some o := ⟨_, List.getElem?_eq_getElem (by rw [← HTE.out]; exact hlt)⟩
      obtain ⟨ad, rfl, x0, x1⟩ := HO.out.at i o ho
      have x0 := cell_below x0 hQ.2.2
      have x1 := cell_below x1 hQ.2.2
      have hok := HK.out o (List.mem_of_getElem? ho)
      obtain ⟨gk, rfl⟩ : ∃ g, gk = g + 1 := ⟨gk - 1, by omega⟩
      have hBo := blk_new wr (.cells #[.string o.f0, .int .i64 o.f1] PPT)
      have hbl := (Below.refl wr.heap.size wr).alloc (Nat.le_refl _) (.cells #[.string o.f0, .int .i64 o.f1] PPT)
      have HT2 := Lib.hid (hTw.below hbl); have HQV := Lib.hid (show Qb W r (wr.alloc (.cells #[.string o.f0, .int .i64 o.f1] PPT)) from ⟨blk_below hQ.1 hbl, blk_below hQ.2.1 hbl, below_trans hQ.2.2 hbl⟩); have HBO := Lib.hid hBo
      have hLl : L.length ≤ 1000 := by omega
      have HSR := Lib.hid hTw.srt
      clear hTw hQ hBo hbl ho
      go_upto_region 6 with fail
      generalize wr.alloc (.cells #[.string o.f0, .int .i64 o.f1] PPT) = V at HT2 HQV HBO ⊢
      generalize wr.heap.size = gb at HBO ⊢
      have hr1 := blk_lt HQV.out.2.1
      have hg1 := blk_lt HT2.out.2.1
      have HNN := Lib.hid (show ∀ x, V.heap.size ≤ x → KQ r g x from fun x hx => ⟨by omega, by omega, by omega, by omega⟩)
      have HDO := Lib.hid (sets_mv HY.out HBE.out (HT2.out.2.2.1.below ((Below.refl V.heap.size V).drew)) hLl o.f0 o.f1 (Nat.le_trans hok (by decide)))
      have HSH := Lib.hid (fun V' (hV : Below V.heap.size V V') => rsets_mv HSR.out.1 HSR.out.2 HT2.out.2.2.2 hLl o.f0 o.f1 hV)
      obtain ⟨⟨q0, q1, q2, q3⟩, -⟩ := box4 HT2.out.1
      obtain ⟨⟨q4, q5⟩, -⟩ := box2 HT2.out.2.1
      obtain ⟨⟨o0, o1'⟩, -⟩ := box2 HBO.out
      have HFIN := Lib.hid (fun (w1 w2 : World) (n' : Int) (p' : Option Addr) (s' t' : Value) (h1 : Below V.heap.size V w1) (h2 : Below w1.heap.size w1 w2) => (qb_put (g := g) (by omega) hrW HQV.out h1 h2 (.int .u64 y) (.int .i64 b) (.int .i64 n') (.pointer p') s' t'))
      have HLN := Lib.hid (show (ins L o.f0 o.f1).length ≤ i + 1 from Nat.le_trans (ins_len L _ _ HSR.out.1) (by omega))
      clear x0 x1 hr1 hg1
      refine wp_region_noPanic ?_
      refine RegL.wp_region_late [12, 13] (fun (w' : World) => (w'.cell? ⟨g, 0, none⟩ = some (.int .u64 y) ∧ w'.cell? ⟨g, 1, none⟩ = some (.int .i64 b) ∧ w'.cell? ⟨g, 2, none⟩ = some (.int .i64 n) ∧ w'.cell? ⟨g, 3, none⟩ = some (.pointer p)) ∧ (w'.cell? ⟨g + 1, 0, none⟩ = some (.slice A1 n1 c1) ∧ w'.cell? ⟨g + 1, 1, none⟩ = some (.slice A2 n2 c2)) ∧ w'.cell? ⟨gb, 0, none⟩ = some (.string o.f0) ∧ w'.cell? ⟨gb, 1, none⟩ = some (.int .i64 o.f1)) (by kernel_rfl) ?_
      have hS0 : (fun (w' : World) => (w'.cell? ⟨g, 0, none⟩ = some (.int .u64 y) ∧ w'.cell? ⟨g, 1, none⟩ = some (.int .i64 b) ∧ w'.cell? ⟨g, 2, none⟩ = some (.int .i64 n) ∧ w'.cell? ⟨g, 3, none⟩ = some (.pointer p)) ∧ (w'.cell? ⟨g + 1, 0, none⟩ = some (.slice A1 n1 c1) ∧ w'.cell? ⟨g + 1, 1, none⟩ = some (.slice A2 n2 c2)) ∧ w'.cell? ⟨gb, 0, none⟩ = some (.string o.f0) ∧ w'.cell? ⟨gb, 1, none⟩ = some (.int .i64 o.f1)) V.drew := ⟨⟨q0, q1, q2, q3⟩, ⟨q4, q5⟩, o0, o1'⟩
      clear q0 q1 q2 q3 q4 q5 o0 o1'
      show RegL.wpAnyL _ _ _ _ _ _ 14 _ _ _
      refine RegL.wpAnyL_take (i := 0) (oi := ⟨some 18, Op.load 30 (Operand.tmp 6), _, _, _, _⟩) (v := ?vvr61) rfl (by kernel_rfl) (by kernel_rfl) (by kernel_rfl) (by kernel_rfl) (by kernel_rfl) (by kernel_rfl) (fun _ _ _ h => h) (Or.inl ⟨by rfl, ?hyr61⟩) hS0 ?restr61
      case hyr61 => ((intro w hSw; (try dsimp only at hSw); go_simp) <;> with_reducible rfl)
      try simp only [Act.put, List.setIfInBounds_toArray, List.set_cons_zero, List.set_cons_succ]
      refine RegL.wpAnyL_take (i := 1) (oi := ⟨some 19, Op.fieldAddr 133 (Operand.tmp 9) 0, _, _, _, _⟩) (v := ?vvr62) rfl (by kernel_rfl) (by kernel_rfl) (by kernel_rfl) (by kernel_rfl) (by kernel_rfl) (by kernel_rfl) (fun _ _ _ h => h) (Or.inl ⟨by rfl, ?hyr62⟩) hS0 ?restr62
      case hyr62 => ((intro w hSw; (try dsimp only at hSw); go_simp) <;> with_reducible rfl)
      try simp only [Act.put, List.setIfInBounds_toArray, List.set_cons_zero, List.set_cons_succ]
      refine RegL.wpAnyL_take (i := 2) (oi := ⟨some 20, Op.load 9 (Operand.tmp 19), _, _, _, _⟩) (v := ?vvr63) rfl (by kernel_rfl) (by kernel_rfl) (by kernel_rfl) (by kernel_rfl) (by kernel_rfl) (by kernel_rfl) (fun _ _ _ h => h) (Or.inl ⟨by rfl, ?hyr63⟩) hS0 ?restr63
      case hyr63 => ((intro w hSw; (try dsimp only at hSw); go_simp) <;> with_reducible rfl)
      try simp only [Act.put, List.setIfInBounds_toArray, List.set_cons_zero, List.set_cons_succ]
      refine RegL.wpAnyL_take (i := 3) (oi := ⟨some 21, Op.fieldAddr 133 (Operand.tmp 9) 1, _, _, _, _⟩) (v := ?vvr64) rfl (by kernel_rfl) (by kernel_rfl) (by kernel_rfl) (by kernel_rfl) (by kernel_rfl) (by kernel_rfl) (fun _ _ _ h => h) (Or.inl ⟨by rfl, ?hyr64⟩) hS0 ?restr64
      case hyr64 => ((intro w hSw; (try dsimp only at hSw); go_simp) <;> with_reducible rfl)
      try simp only [Act.put, List.setIfInBounds_toArray, List.set_cons_zero, List.set_cons_succ]
      refine RegL.wpAnyL_take (i := 4) (oi := ⟨some 22, Op.load 3 (Operand.tmp 21), _, _, _, _⟩) (v := ?vvr65) rfl (by kernel_rfl) (by kernel_rfl) (by kernel_rfl) (by kernel_rfl) (by kernel_rfl) (by kernel_rfl) (fun _ _ _ h => h) (Or.inl ⟨by rfl, ?hyr65⟩) hS0 ?restr65
      case hyr65 => ((intro w hSw; (try dsimp only at hSw); go_simp) <;> with_reducible rfl)
      try simp only [Act.put, List.setIfInBounds_toArray, List.set_cons_zero, List.set_cons_succ]
      refine RegL.wpAnyL_take (i := 6) (oi := ⟨some 24, Op.load 35 (Operand.tmp 7), _, _, _, _⟩) (v := ?vvr66) rfl (by kernel_rfl) (by kernel_rfl) (by kernel_rfl) (by kernel_rfl) (by kernel_rfl) (by kernel_rfl) (fun _ _ _ h => h) (Or.inl ⟨by rfl, ?hyr66⟩) hS0 ?restr66
      case hyr66 => ((intro w hSw; (try dsimp only at hSw); go_simp) <;> with_reducible rfl)
      try simp only [Act.put, List.setIfInBounds_toArray, List.set_cons_zero, List.set_cons_succ]
      refine RegL.wpAnyL_take (i := 7) (oi := ⟨some 25, Op.fieldAddr 133 (Operand.tmp 9) 0, _, _, _, _⟩) (v := ?vvr67) rfl (by kernel_rfl) (by kernel_rfl) (by kernel_rfl) (by kernel_rfl) (by kernel_rfl) (by kernel_rfl) (fun _ _ _ h => h) (Or.inl ⟨by rfl, ?hyr67⟩) hS0 ?restr67
      case hyr67 => ((intro w hSw; (try dsimp only at hSw); go_simp) <;> with_reducible rfl)
      try simp only [Act.put, List.setIfInBounds_toArray, List.set_cons_zero, List.set_cons_succ]
      refine RegL.wpAnyL_take (i := 8) (oi := ⟨some 26, Op.load 9 (Operand.tmp 25), _, _, _, _⟩) (v := ?vvr68) rfl (by kernel_rfl) (by kernel_rfl) (by kernel_rfl) (by kernel_rfl) (by kernel_rfl) (by kernel_rfl) (fun _ _ _ h => h) (Or.inl ⟨by rfl, ?hyr68⟩) hS0 ?restr68
      case hyr68 => ((intro w hSw; (try dsimp only at hSw); go_simp) <;> with_reducible rfl)
      try simp only [Act.put, List.setIfInBounds_toArray, List.set_cons_zero, List.set_cons_succ]
      refine RegL.wpAnyL_take (i := 9) (oi := ⟨some 27, Op.fieldAddr 133 (Operand.tmp 9) 1, _, _, _, _⟩) (v := ?vvr69) rfl (by kernel_rfl) (by kernel_rfl) (by kernel_rfl) (by kernel_rfl) (by kernel_rfl) (by kernel_rfl) (fun _ _ _ h => h) (Or.inl ⟨by rfl, ?hyr69⟩) hS0 ?restr69
      case hyr69 => ((intro w hSw; (try dsimp only at hSw); go_simp) <;> with_reducible rfl)
      try simp only [Act.put, List.setIfInBounds_toArray, List.set_cons_zero, List.set_cons_succ]
      refine RegL.wpAnyL_take (i := 10) (oi := ⟨some 28, Op.load 3 (Operand.tmp 27), _, _, _, _⟩) (v := ?vvr610) rfl (by kernel_rfl) (by kernel_rfl) (by kernel_rfl) (by kernel_rfl) (by kernel_rfl) (by kernel_rfl) (fun _ _ _ h => h) (Or.inl ⟨by rfl, ?hyr610⟩) hS0 ?restr610
      case hyr610 => ((intro w hSw; (try dsimp only at hSw); go_simp) <;> with_reducible rfl)
      try simp only [Act.put, List.setIfInBounds_toArray, List.set_cons_zero, List.set_cons_succ]
      refine RegL.wpAnyL_ready (rs := [5]) (by kernel_rfl) (by simp) ?_
      refine RegL.AllReadyL.calm (o := ⟨some 23, Op.call { callee := Callee.value (Operand.func 25), args := #[Operand.tmp 18, Operand.tmp 20, Operand.tmp 22], argTypes := #[30, 9, 3] }, _, _, _, _⟩) rfl (fun K hK => ?_) RegL.AllReadyL.nil
      go_simp
      refine (HDO.out).mono ?_
      rintro e w1 ⟨v, rfl, ⟨n', p', rfl, hm⟩, hb1⟩
      have HB1r := Lib.hid hb1; have HM := Lib.hid hm; have HB1 := Lib.hid (below_trans (w1 := World.drew V) (Below.refl _ _).drew hb1)
      clear hm hb1
      (try dsimp only)
      refine hK.out _ _ (⟨⟨cell_below hS0.1.1 HB1r.out, cell_below hS0.1.2.1 HB1r.out, cell_below hS0.1.2.2.1 HB1r.out, cell_below hS0.1.2.2.2 HB1r.out⟩, ⟨cell_below hS0.2.1.1 HB1r.out, cell_below hS0.2.1.2 HB1r.out⟩, cell_below hS0.2.2.1 HB1r.out, cell_below hS0.2.2.2 HB1r.out⟩) (fun hS0x => ?_)
      clear hK K
      try simp only [Act.put, List.setIfInBounds_toArray, List.set_cons_zero, List.set_cons_succ]
      refine RegL.wpAnyL_ready (rs := [11]) (by kernel_rfl) (by simp) ?_
      refine RegL.AllReadyL.calm (o := ⟨some 29, Op.call { callee := Callee.value (Operand.func 71), args := #[Operand.tmp 24, Operand.tmp 26, Operand.tmp 28], argTypes := #[35, 9, 3] }, _, _, _, _⟩) rfl (fun K hK => ?_) RegL.AllReadyL.nil
      go_simp
      refine (HSH.out _ HB1.out).mono ?_
      rintro e w2 ⟨v, rfl, ⟨A3, n3, c3, A4, n4, c4, rfl, hr⟩, hb2⟩
      have HR := Lib.hid hr; have HB2 := Lib.hid hb2
      clear hr hb2
      have HTW := Lib.hid (twk_put HT2.out HN0.out HN1.out HNN.out HB1.out HB2.out HM.out HR.out)
      obtain ⟨⟨e0, e1, e2, e3⟩, f0, f1, f2, f3⟩ := box4 (blk_below HT2.out.1 (below_trans HB1.out HB2.out))
      obtain ⟨⟨r0, r1⟩, fr0, fr1⟩ := box2 (blk_below HT2.out.2.1 (below_trans HB1.out HB2.out))
      (try dsimp only)
      refine hK.out _ _ (⟨⟨cell_below hS0x.1.1 HB2.out, cell_below hS0x.1.2.1 HB2.out, cell_below hS0x.1.2.2.1 HB2.out, cell_below hS0x.1.2.2.2 HB2.out⟩, ⟨cell_below hS0x.2.1.1 HB2.out, cell_below hS0x.2.1.2 HB2.out⟩, cell_below hS0x.2.2.1 HB2.out, cell_below hS0x.2.2.2 HB2.out⟩) (fun hS0xx => ?_)
      clear hK K
      try simp only [Act.put, List.setIfInBounds_toArray, List.set_cons_zero, List.set_cons_succ]
      refine RegL.wpAnyL_ready (rs := [12]) (by kernel_rfl) (by simp) ?_
      refine RegL.AllReadyL.late (o := ⟨none, Op.store 30 (Operand.tmp 6) (Operand.tmp 23), _, _, _, _⟩) rfl (by kernel_rfl) (fun K hK => ?_) RegL.AllReadyL.nil
      go_simp
      refine hK.out _ _ ?_
      clear hK K
      try simp only [Act.put, List.setIfInBounds_toArray, List.set_cons_zero, List.set_cons_succ]
      refine RegL.wpAnyL_ready (rs := [13]) (by kernel_rfl) (by simp) ?_
      refine RegL.AllReadyL.late (o := ⟨none, Op.store 35 (Operand.tmp 7) (Operand.tmp 29), _, _, _, _⟩) rfl (by kernel_rfl) (fun K hK => ?_) RegL.AllReadyL.nil
      go_simp
      refine hK.out _ _ ?_
      clear hK K
      try simp only [Act.put, List.setIfInBounds_toArray, List.set_cons_zero, List.set_cons_succ]
      refine RegL.wpAnyL_done (by kernel_rfl) ?_ _
      refine NoPanic.normal ?_
      (go_wp2_with fail)
      go_roundg gk
      case measure => omega
      case rel =>
        show MdI _ _ _ _ _ _ _ _ _ _ _
        exact ⟨i + 1, _, _, _, _, _, by first | rfl | (push_cast; rfl), by omega, HLN.out, HTW.out, HFIN.out _ _ _ _ _ _ HB1.out HB2.out⟩
    · have hl' : L.length ≤ 80 := by omega
      have hne1 : ¬ r = g + 1 := by omega
      have hne2 : ¬ g + 1 = r := by omega
      have hne3 : ¬ r = g := by omega
      have hne4 : ¬ g = r := by omega
      have HT2 := Lib.hid hTw; have HQV := Lib.hid hQ
      have HE := Lib.hid (made_end HT2.out HQV.out hl' hrW)
      clear hTw hQ
      go_upto_region 8 with fail
      obtain ⟨⟨q0, q1, q2, q3⟩, -⟩ := box4 HT2.out.1
      obtain ⟨⟨q4, q5⟩, -⟩ := box2 HT2.out.2.1
      obtain ⟨⟨e0, e1, e2, e3⟩, f0, f1, f2, f3⟩ := box4 HQV.out.1
      obtain ⟨⟨r0, r1⟩, fr0, fr1⟩ := box2 HQV.out.2.1
      refine wp_region_noPanic ?_
      refine RegL.wp_region_late [2, 3] (fun (w' : World) => (w'.cell? ⟨g, 0, none⟩ = some (.int .u64 y) ∧ w'.cell? ⟨g, 1, none⟩ = some (.int .i64 b) ∧ w'.cell? ⟨g, 2, none⟩ = some (.int .i64 n) ∧ w'.cell? ⟨g, 3, none⟩ = some (.pointer p)) ∧ (w'.cell? ⟨g + 1, 0, none⟩ = some (.slice A1 n1 c1) ∧ w'.cell? ⟨g + 1, 1, none⟩ = some (.slice A2 n2 c2))) (by kernel_rfl) ?_
      have hS0 : (fun (w' : World) => (w'.cell? ⟨g, 0, none⟩ = some (.int .u64 y) ∧ w'.cell? ⟨g, 1, none⟩ = some (.int .i64 b) ∧ w'.cell? ⟨g, 2, none⟩ = some (.int .i64 n) ∧ w'.cell? ⟨g, 3, none⟩ = some (.pointer p)) ∧ (w'.cell? ⟨g + 1, 0, none⟩ = some (.slice A1 n1 c1) ∧ w'.cell? ⟨g + 1, 1, none⟩ = some (.slice A2 n2 c2))) wr.drew := ⟨⟨q0, q1, q2, q3⟩, ⟨q4, q5⟩⟩
      show RegL.wpAnyL _ _ _ _ _ _ 4 _ _ _
      refine RegL.wpAnyL_take (i := 0) (oi := ⟨some 31, Op.load 30 (Operand.tmp 6), _, _, _, _⟩) (v := ?vvr81) rfl (by kernel_rfl) (by kernel_rfl) (by kernel_rfl) (by kernel_rfl) (by kernel_rfl) (by kernel_rfl) (fun _ _ _ h => h) (Or.inl ⟨by rfl, ?hyr81⟩) hS0 ?restr81
      case hyr81 => ((intro w hSw; (try dsimp only at hSw); go_simp) <;> with_reducible rfl)
      try simp only [Act.put, List.setIfInBounds_toArray, List.set_cons_zero, List.set_cons_succ]
      refine RegL.wpAnyL_ready (rs := [1, 2]) (by kernel_rfl) (by simp) ?_
      refine RegL.AllReadyL.calm (o := ⟨some 32, Op.load 35 (Operand.tmp 7), _, _, _, _⟩) rfl (fun K hK => ?_) ?_
      · go_simp
        refine hK.out _ _ (hS0) (fun hS0x => ?_)
        clear hK K
        try simp only [Act.put, List.setIfInBounds_toArray, List.set_cons_zero, List.set_cons_succ]
        refine RegL.wpAnyL_ready (rs := [2]) (by kernel_rfl) (by simp) ?_
        refine RegL.AllReadyL.late (o := ⟨none, Op.store 30 (Operand.tmp 4) (Operand.tmp 31), _, _, _, _⟩) rfl (by kernel_rfl) (fun K hK => ?_) RegL.AllReadyL.nil
        go_simp
        refine hK.out _ _ ?_
        clear hK K
        try simp only [Act.put, List.setIfInBounds_toArray, List.set_cons_zero, List.set_cons_succ]
        refine RegL.wpAnyL_ready (rs := [3]) (by kernel_rfl) (by simp) ?_
        refine RegL.AllReadyL.late (o := ⟨none, Op.store 35 (Operand.tmp 5) (Operand.tmp 32), _, _, _, _⟩) rfl (by kernel_rfl) (fun K hK => ?_) RegL.AllReadyL.nil
        go_simp
        refine hK.out _ _ ?_
        clear hK K
        try simp only [Act.put, List.setIfInBounds_toArray, List.set_cons_zero, List.set_cons_succ]
        refine RegL.wpAnyL_done (by kernel_rfl) ?_ _
        refine NoPanic.normal ?_
        (go_wp2_with fail)
        refine bodyPost_ret (results_cc rfl _ _ r (r + 1) MT RT #[.int .u64 y, .int .i64 b, .int .i64 n, .pointer p] #[.slice A1 n1 c1, .slice A2 n2 c2] (0, 0) (0, 0) _ _ rfl rfl HE.out.1 HE.out.2.1 Tryd.underlying30 rfl (by kernel_rfl) Tryd.underlying35 rfl (by kernel_rfl)) rfl ?_
        exact ⟨_, rfl, HE.out.2.2.1, HE.out.2.2.2⟩
      refine RegL.AllReadyL.late (o := ⟨none, Op.store 30 (Operand.tmp 4) (Operand.tmp 31), _, _, _, _⟩) rfl (by kernel_rfl) (fun K hK => ?_) RegL.AllReadyL.nil
      go_simp
      refine hK.out _ _ ?_
      clear hK K
      try simp only [Act.put, List.setIfInBounds_toArray, List.set_cons_zero, List.set_cons_succ]
      refine RegL.wpAnyL_ready (rs := [1]) (by kernel_rfl) (by simp) ?_
      refine RegL.AllReadyL.late (o := ⟨some 32, Op.load 35 (Operand.tmp 7), _, _, _, _⟩) rfl (by kernel_rfl) (fun K hK => ?_) RegL.AllReadyL.nil
      go_simp
      refine hK.out _ _ ?_
      clear hK K
      try simp only [Act.put, List.setIfInBounds_toArray, List.set_cons_zero, List.set_cons_succ]
      refine RegL.wpAnyL_ready (rs := [3]) (by kernel_rfl) (by simp) ?_
      refine RegL.AllReadyL.late (o := ⟨none, Op.store 35 (Operand.tmp 5) (Operand.tmp 32), _, _, _, _⟩) rfl (by kernel_rfl) (fun K hK => ?_) RegL.AllReadyL.nil
      go_simp
      refine hK.out _ _ ?_
      clear hK K
      try simp only [Act.put, List.setIfInBounds_toArray, List.set_cons_zero, List.set_cons_succ]
      refine RegL.wpAnyL_done (by kernel_rfl) ?_ _
      refine NoPanic.normal ?_
      (go_wp2_with fail)
      refine bodyPost_ret (results_cc rfl _ _ r (r + 1) MT RT #[.int .u64 y, .int .i64 b, .int .i64 n, .pointer p] #[.slice A1 n1 c1, .slice A2 n2 c2] (0, 0) (0, 0) _ _ rfl rfl HE.out.1 HE.out.2.1 Tryd.underlying30 rfl (by kernel_rfl) Tryd.underlying35 rfl (by kernel_rfl)) rfl ?_
      exact ⟨_, rfl, HE.out.2.2.1, HE.out.2.2.2⟩

/-- A MAP MADE OF PAIRS, AND THE DOCUMENT's. -/
theorem made_c (c : Cf) (v : Value) (os : List S2) (W : World) (hO : PairsV W v os) (hl : os.length ≤ 80) (hk : ∀ o ∈ os, o.f0.size ≤ 200) :
    Calls Tryd.prog 38 #[confV c, v] W (Ret (fun u w' => Made c (U c.1) c.2 80 u w') W) := made_w c v os _ _ rfl rfl W hO hl hk
end Go.Proofs.YtnegblckbomgdaaDoor.Ht
