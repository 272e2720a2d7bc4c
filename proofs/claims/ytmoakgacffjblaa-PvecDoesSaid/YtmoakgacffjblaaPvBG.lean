/- Whatever is pushed, set, popped and kept: the law's walk. -/
import Derived.Test.YtmoakgacffjblaaPvBF
import Derived.Deep.DeepCutAuto
set_option linter.unusedVariables false
set_option linter.unusedSimpArgs false
namespace Go.Proofs.Ytmoakgacffjblaa.Pv
open Go Go.RowKit Go.Proofs.Ytmoakgacffjblaa.Mem Go.Proofs.YtmoakgacffjblaaW.PrintWords Go.Proofs.Ytmoakgacffjblaa.PPvecDoes

set_option maxHeartbeats 4000000 in
theorem dd_out (v : Value) (ask : Int) (W : World)
    (hf : ∀ V, Below W.heap.size W V → Calls Try.prog 18 #[v] V (Ret (fun u _ => u = .bool false) V)) :
    Calls Try.prog 5 #[v, .int .i64 ask] W (Tru W) := by
  have HF := Lib.hid hf; clear hf
  go_enter Try.func5, Try.ntmps5
  go_wp2_with (first
    | (go_at_call 18; ((with_reducible refine (HF.out _ (by go_grown)).mono ?_); rintro e w1 ⟨v, rfl, rfl, hb1⟩; have hB1 : Below W.heap.size W w1 := below_trans (by go_grown) hb1; clear hb1))
    | (go_at_call 8; ((with_reducible refine (live_c _).mono ?_); rintro e w2 ⟨v, rfl, rfl, hb2⟩; have hB2 : Below W.heap.size W w2 := below_trans (by go_grown) hb2; clear hb2)))
  go_returns
  exact ⟨rfl, by go_grown⟩

/-- what holds at each round's head -/
def DoesI (w : World) (g T k : Nat) (v6 v7 v8 v32 : Value) (wr : World) : Prop :=
  ∃ (j : Nat) (hist : List Past) (l : List Int) (n L : Int) (p A : Option Addr) (m c : Nat), v32 = .int .i64 (j : Int) ∧ j + k = T ∧ hist.length = j + 1 ∧ l.length ≤ 0 + 1500 * j ∧
    wr.heap[g]? = some (.cells #[.int .i64 n, .int .i64 L, .pointer p, .slice A m c] VT (0, 0)) ∧ VRep (KD g v7 v8) wr (vec n L p (.slice A m c)) l ∧ SlV (KD g v7 v8) wr v6 (ints l) ∧ Hist w g v7 v8 hist wr ∧ Below w.heap.size w wr

def SeqI (w : World) (T k : Nat) (v79 : Value) (wr : World) : Prop := ∃ i : Nat, v79 = .int .i64 (i : Int) ∧ i + k = T ∧ Below w.heap.size w wr

theorem row_form {w : World} {base size : Nat} {e : TypeId} {v : Value} {n : Nat} {xs : List Value} (h : w.ownsRow base e size v n xs) (hn : 0 < n) : ∃ g cap, v = .slice (some ⟨g, 0, none⟩) n cap ∧ ∀ j u, xs[j]? = some u → w.cell? ⟨g, j, none⟩ = some u := by
  have hc : ∀ {g : Nat}, v.ownBlock = some g → ∀ j u, xs[j]? = some u → w.cell? ((⟨g, 0, none⟩ : Addr).add j) = some u := fun hg => h.cells hg
  rcases h.2 with ⟨_, h0⟩ | ⟨g, cap, cur, rfl, _⟩
  · omega
  · exact ⟨g, cap, rfl, fun j u hu => by have := hc (g := g) (by simp [Value.ownBlock]) j u hu; rwa [add_head] at this⟩

theorem hist_start {w w2 : World} (hB : Below w.heap.size w w2) :
    DoesI w w2.heap.size 0 0 (.slice (some ⟨w2.heap.size + 1, 0, none⟩) 0 0) (.slice (some ⟨w2.heap.size + 1 + 1, 0, none⟩) 1 1) (.slice (some ⟨w2.heap.size + 1 + 1 + 1, 0, none⟩) 1 1) (.int .i64 0)
      ((((w2.alloc (.cells #[.int .i64 0, .int .i64 0, .pointer none, .slice none 0 0] 26)).alloc (.cells #[] 3)).alloc (.cells #[.int .i64 0, .int .i64 0, .pointer none, .slice none 0 0] 26)).alloc (.cells #[.slice (some ⟨w2.heap.size + 1, 0, none⟩) 0 0] 24)) := by
  have hs := hB.size
  have hnil : ∀ (K : Nat → Prop) (W : World), SlV K W (.slice (some ⟨w2.heap.size + 1, 0, none⟩) 0 0) (ints []) := fun K W => ⟨_, _, rfl, by simp, by simp [maxLen], fun h => absurd h (by simp), fun u hu => by simp at hu⟩
  refine ⟨0, [(vec 0 0 none (.slice none 0 0), .slice (some ⟨w2.heap.size + 1, 0, none⟩) 0 0, [])], [], 0, 0, none, none, 0, 0, rfl, rfl, rfl, by simp, blk_alloc (blk_alloc (blk_alloc (blk_new w2 _) _) _) _, zero_vec _ _, hnil _ _, ⟨?_, ?_, ?_, ?_, ?_⟩, ?_⟩
  · exact ⟨rfl, .inr ⟨w2.heap.size + 1 + 1, 1, #[.int .i64 0, .int .i64 0, .pointer none, .slice none 0 0], rfl, by omega, blk_alloc (heap_k2 w2 _ _ _) _, by simp, by simp [maxLen], rfl, rfl⟩⟩
  · exact ⟨by simp, .inr ⟨w2.heap.size + 1 + 1 + 1, 1, #[.slice (some ⟨w2.heap.size + 1, 0, none⟩) 0 0], rfl, by omega, heap_k3 w2 _ _ _ _, by simp, by simp [maxLen], rfl, rfl⟩⟩
  · intro h hh
    obtain rfl := List.mem_singleton.1 hh
    exact ⟨zero_vec _ _, hnil _ _, by simp⟩
  · simp [Value.ownBlock]; omega
  · simp [Value.ownBlock]; omega
  · exact (((hB.alloc hs _).alloc (by simp; omega) _).alloc (by simp; omega) _).alloc (by simp; omega) _

theorem info_vec : (Try.prog.info? 26).map (fun i => (i.zero, i.size, i.bytes)) = some (some (.agg #[.int .i64 0, .int .i64 0, .pointer none, .slice none 0 0]), 4, 48) := by kernel_rfl
theorem info_sl : (Try.prog.info? 24).map (fun i => (i.zero, i.size, i.bytes)) = some (some (.slice none 0 0), 1, 24) := by kernel_rfl

set_option maxRecDepth 100000 in
set_option maxHeartbeats 8000000 in
theorem dd_in (v : Value) (ask : Int) (os : List S43) (W : World) (hO : OpsV W v os) (hl : os.length ≤ 40) (hN : ∀ (q : Nat) (o : S43), os[q]? = some o → o.f3 ≤ 1500)
    (hf : ∀ V, Below W.heap.size W V → Calls Try.prog 18 #[v] V (Ret (fun u _ => u = .bool true) V)) :
    Calls Try.prog 5 #[v, .int .i64 ask] W (Tru W) := by
  obtain ⟨As, cs, rfl, -⟩ := id hO
  obtain ⟨iv, hiv, hv0, hv1, hv2⟩ := info_parts info_vec
  obtain ⟨is, his, hs0, hs1, hs2⟩ := info_parts info_sl
  have HIV := Lib.hid (And.intro hiv (And.intro hv0 (And.intro hv1 hv2))); clear hiv hv0 hv1 hv2
  have HIS := Lib.hid (And.intro his (And.intro hs0 (And.intro hs1 hs2))); clear his hs0 hs1 hs2
  have HF := Lib.hid hf; clear hf
  have HO := Lib.hid hO; clear hO
  have HN := Lib.hid hN; clear hN
  go_enter Try.func5, Try.ntmps5
  go_wp2_with (first
    | (go_at_call 8; ((with_reducible refine (live_c _).mono ?_); rintro e w1 ⟨v, rfl, rfl, hb1⟩; have hB1 : Below W.heap.size W w1 := below_trans (by go_grown) hb1; clear hb1))
    | (go_at_call 18; ((with_reducible refine (HF.out _ (by go_grown)).mono ?_); rintro e w2 ⟨v, rfl, rfl, hb2⟩; have hB2 : Below W.heap.size W w2 := below_trans hB1 hb2; clear hb2)))
  have hOl : (os.length : Int) ≤ 40 := by omega
  clear hB1
  have hw2 : Hid (W.heap.size ≤ w2.heap.size) := Lib.hid hB2.size
  go_loopg [6, 7, 8, 32] os.length (fun k v6 v7 v8 v32 wr => Aside (DoesI W w2.heap.size os.length k v6 v7 v8 v32 wr))
  case atStart =>
    show DoesI _ _ _ _ _ _ _ _ _
    obtain ⟨j, hist, l, n, L, p, A, m, c, h1, h2, h3, h4⟩ := hist_start hB2
    exact ⟨j, hist, l, n, L, p, A, m, c, h1, by omega, h3, h4⟩
  case round =>
    obtain ⟨j, hist, l, n, L, p, A, m, c, rfl, hj, hh, hll, BK, hV, hS, hH, hB⟩ := hrel.out
    clear hrel
    obtain ⟨Ar, nr, cr, rfl⟩ := hS.form
    have hz : w2.heap.size < wr.heap.size := blk_lt BK
    have HBK := Lib.hid BK; clear BK
    have HV := Lib.hid hV; clear hV
    have HS := Lib.hid hS; clear hS
    have HH := Lib.hid hH; clear hH
    have HLL := Lib.hid hll; clear hll
    have HHL := Lib.hid hh; clear hh
    cases gk with
    | succ k =>
      have hjl : j < os.length := by omega
      have hjI : (j : Int) < (os.length : Int) := by omega
      obtain ⟨ad, o, rfl, ho, c0, c1, c2, c3⟩ := HO.out.at j hjl
      have c0 := cell_below c0 hB
      have c1 := cell_below c1 hB
      have c2 := cell_below c2 hB
      have c3 := cell_below c3 hB
      have hoN := HN.out j o ho
      have HOJ := Lib.hid ho; clear ho
      obtain ⟨D, I, X, N⟩ := o
      obtain ⟨⟨k0, k1, k2, k3⟩, f0, f1, f2, f3⟩ := box4 HBK.out
      have g0 := fun o : Obj => cell_below k0 ((Below.refl wr.heap.size wr).alloc (Nat.le_refl _) o)
      have g1 := fun o : Obj => cell_below k1 ((Below.refl wr.heap.size wr).alloc (Nat.le_refl _) o)
      have g2 := fun o : Obj => cell_below k2 ((Below.refl wr.heap.size wr).alloc (Nat.le_refl _) o)
      have g3 := fun o : Obj => cell_below k3 ((Below.refl wr.heap.size wr).alloc (Nat.le_refl _) o)
      have HD := Lib.hid (fun o : Obj => does_c _ _ _ l D I X N (wr.alloc o) (HV.out.below ((Below.refl _ _).alloc (Nat.le_refl _) o)) (HS.out.below ((Below.refl _ _).alloc (Nat.le_refl _) o)) (by have h : N ≤ 1500 := hoN; omega) (by have := HLL.out; omega))
      have HNN := Lib.hid (show N ≤ 1500 from hoN)
      clear hoN
      go_upto_region 11 with (go_at_call 19; ((with_reducible refine (HD.out _).mono ?_); rintro e w5 ⟨v, rfl, ⟨u, s, rfl, hV5, hS5⟩, hb5⟩; obtain ⟨n5, L5, p5, A5, m5, c5, rfl⟩ := vrep_form hV5; obtain ⟨A6, n6, c6, rfl⟩ := hS5.form; have HV5 := Lib.hid hV5; have HS5 := Lib.hid hS5; clear hV5 hS5; have hb5' : Below wr.heap.size wr w5 := below_trans ((Below.refl _ _).alloc (Nat.le_refl _) _) hb5; have B5 := blk_below HBK.out hb5'; obtain ⟨⟨k0, k1, k2, k3⟩, f0, f1, f2, f3⟩ := box4 B5; have HB5 := Lib.hid B5; clear B5))
      obtain ⟨hH6, hV6, hS6, hB6, hBw6⟩ := does_stored HH.out hB hw2.out _ HBK.out hb5' HV5.out HS5.out
      generalize hW6 : (((w5.setCell ⟨w2.heap.size, 0, none⟩ (.int .i64 n5)).setCell ⟨w2.heap.size, 1, none⟩ (.int .i64 L5)).setCell ⟨w2.heap.size, 2, none⟩ (.pointer p5)).setCell ⟨w2.heap.size, 3, none⟩ (.slice A5 m5 c5) = w6
      rw [show put4w w5 w2.heap.size (.int .i64 n5) (.int .i64 L5) (.pointer p5) (.slice A5 m5 c5) = w6 from hW6] at hH6 hV6 hS6 hB6 hBw6
      clear hW6 HV5 HS5 HD HBK HV HS HB5 hb5 hb5' k0 k1 k2 k3 f0 f1 f2 f3 g0 g1 g2 g3 c0 c1 c2 c3 hB hz
      clear HH
      obtain ⟨⟨k0, k1, k2, k3⟩, -, -, -, -⟩ := box4 hB6
      obtain ⟨x, b, hg, hr⟩ := get_pair _ _ _ _ (doesL l D I X N) ask w6 hV6 hS6
      have HG := Lib.hid hg; clear hg
      have HR := Lib.hid hr; clear hr
      have HH6 := Lib.hid hH6; clear hH6
      have HV6 := Lib.hid hV6; clear hV6
      have HS6 := Lib.hid hS6; clear hS6
      have HB6 := Lib.hid hB6; clear hB6
      have HBW6 := Lib.hid hBw6; clear hBw6
      have hhl : hist.length = j + 1 := HHL.out
      have hj40 : hist.length ≤ 41 := by omega
      have HLEN := Lib.hid (len_step _ _ _ _ _ (doesL_len l D I X N HNN.out) HLL.out); clear HLL
      clear hhl
      go_wp2_with (first
        | (go_at_call 20; ((with_reducible refine (HG.out _ (Below.refl _ _)).mono ?_); rintro e w7 ⟨v, rfl, rfl, hb7⟩; obtain ⟨⟨k0, k1, k2, k3⟩, -, -, -, -⟩ := box4 (blk_below HB6.out hb7)))
        | (go_at_call 21; ((with_reducible refine (HR.out _ hb7).mono ?_); rintro e w8 ⟨v, rfl, rfl, hb8⟩; have hb68 := below_trans hb7 hb8; have HB8 := Lib.hid (blk_below HB6.out hb68); obtain ⟨⟨k0, k1, k2, k3⟩, -, -, -, -⟩ := box4 HB8.out; have HH8 := Lib.hid (HH6.out.below hb68); have HV8 := Lib.hid (HV6.out.below hb68); have HS8 := Lib.hid (HS6.out.below hb68); have HBW8 := Lib.hid (below_trans HBW6.out hb68); clear HH6 HV6 HS6 HB6 HBW6 HG HR hb7 hb8 hb68))
        | (at_builtin; refine wpList_append_own_at _ rfl (.tmp 68) (.tmp 70) 40 rfl W.heap.size 26 iv _ 4 48 Try.underlying40 HIV.out.1 HIV.out.2.1 HIV.out.2.2.1 HIV.out.2.2.2 rfl (by decide) _ hist.length _ rfl (HH8.out.1.alloc _) ⟨w8.heap.size, 0, none⟩ 1 1 [.int .i64 n5, .int .i64 L5, .pointer p5, .slice A5 m5 c5] rfl rfl ?a1 ?a2 ?a3 ?a4 ?a5 ?_; (case a1 => exact World.news_of_block (cs := #[.int .i64 n5, .int .i64 L5, .pointer p5, .slice A5 m5 c5]) (heap_alloc_new w8 _)); (case a2 => simp [Value.oneCell']); (case a3 => unfold maxLen; omega); (case a4 => omega); (case a5 => have := HBW8.out.size; rw [World.size_alloc]; omega); intro v9 w9 hown9 hgrow9 _ hat9; have HO9 := Lib.hid hown9; have HG9 := Lib.hid hgrow9; have HA9 := Lib.hid hat9; clear hown9 hgrow9 hat9)
        | (at_builtin; refine wpList_append_own_at _ rfl (.tmp 72) (.tmp 74) 41 rfl W.heap.size 24 is _ 1 24 Try.underlying41 HIS.out.1 HIS.out.2.1 HIS.out.2.2.1 HIS.out.2.2.2 rfl (by decide) _ hist.length _ rfl (((HH8.out.2.1.alloc _).kept HG9.out HH8.out.apart).alloc _) ⟨w9.heap.size, 0, none⟩ 1 1 [.slice A6 n6 c6] rfl rfl ?b1 ?b2 ?b3 ?b4 ?b5 ?_; (case b1 => exact World.news_of_block (cs := #[.slice A6 n6 c6]) (heap_alloc_new w9 _)); (case b2 => simp [Value.oneCell']); (case b3 => unfold maxLen; omega); (case b4 => omega); (case b5 => have h1 := HBW8.out.size; have h2 := HG9.out.size; rw [World.size_alloc] at h2 ⊢; omega); intro v10 w10 hown10 hgrow10 _ hat10; have HP := Lib.hid (hist_push HH8.out HBW8.out (blk_lt HB8.out) HV8.out HS8.out (by have := HLEN.out; omega) HO9.out HG9.out HA9.out hown10 hgrow10 hat10); clear hown10 hgrow10 hat10 HO9 HG9 HA9))
      go_roundg k
      case measure => omega
      case rel =>
        show DoesI _ _ _ _ _ _ _ _ _
        obtain ⟨p1, p2, p3, p4, p5⟩ := HP.out
        exact ⟨j + 1, _, _, _, _, _, _, _, _, by first | rfl | (push_cast; rfl), by omega, by rw [List.length_append, HHL.out]; rfl, HLEN.out, p4.trans HB8.out, p2, p3, p1, p5⟩
    | zero =>
      obtain rfl : j = os.length := by omega
      have hhl : hist.length = os.length + 1 := HHL.out
      obtain ⟨gv, cv, rfl, hcv⟩ := row_form HH.out.1 (by omega)
      obtain ⟨gl, cl, rfl, hcl⟩ := row_form HH.out.2.1 (by omega)
      have HCV := Lib.hid hcv; clear hcv
      have HCL := Lib.hid hcl; clear hcl
      clear HBK HV HS HLL hj hz
      have hn1 : (hist.length : Int) ≤ 41 := by omega
      have HHLN := Lib.hid hhl; clear hhl HHL
      go_wp2_with fail
      obtain ⟨wo, rfl⟩ : ∃ wo : World, wo = wr := ⟨_, rfl⟩
      go_loopg [79] hist.length (fun k v79 wr => Aside (SeqI wo hist.length k v79 wr))
      case atStart =>
        show SeqI _ _ _ _ _
        exact ⟨0, rfl, by omega, Below.refl _ _⟩
      case round =>
        obtain ⟨i, rfl, hi, hb⟩ := hrel.out
        clear hrel
        cases gk with
        | zero =>
          obtain rfl : i = hist.length := by omega
          clear hi
          go_wp2_with fail
          go_returns
          exact ⟨rfl, below_trans hB hb⟩
        | succ k =>
          have hiI : (i : Int) < (hist.length : Int) := by omega
          obtain ⟨x, hx⟩ : ∃ x, hist[i]? = some x := ⟨_, List.getElem?_eq_getElem (by omega)⟩
          obtain ⟨v, s, l2⟩ := x
          obtain ⟨hv, hs, hl2⟩ := HH.out.2.2.1 _ (List.mem_of_getElem? hx)
          have h4 : ∀ y ∈ hist, ((fun h : Past => h.1.cells.toList) y).length = 4 := fun y hy => by
            obtain ⟨hv', _⟩ := HH.out.2.2.1 y hy
            obtain ⟨_, _, _, _, _, _, e⟩ := vrep_form hv'
            show y.1.cells.toList.length = 4
            rw [e]; rfl
          have hl2 : l2.length ≤ 60000 := hl2
          obtain ⟨n1, L1, p1, A1, m1, c1, rfl⟩ := vrep_form hv
          have hf := fun j hj => flat4_get (fun h : Past => h.1.cells.toList) hist h4 i j _ hx hj
          have c0 := cell_below (HCV.out _ _ ((hf 0 (by omega)).trans rfl)) hb
          have c1' := cell_below (HCV.out _ _ ((hf 1 (by omega)).trans rfl)) hb
          have c2 := cell_below (HCV.out _ _ ((hf 2 (by omega)).trans rfl)) hb
          have c3 := cell_below (HCV.out _ _ ((hf 3 (by omega)).trans rfl)) hb
          have c4 := cell_below (HCL.out i s (by rw [List.getElem?_map, hx]; rfl)) hb
          clear hf h4
          have HSM := Lib.hid (fun V (hw : Below wo.heap.size wo V) => same_c _ _ _ _ l2 V (hv.below hw) (hs.below hw) (by omega))
          obtain ⟨As2, ns2, cs2, rfl⟩ := hs.form
          clear hv hs hx
          simp only [Nat.add_zero] at c0
          have hi0 : (0 : Int) ≤ (i : Int) := by omega
          go_wp2_with fail
          go_region_held3 (fun w' => w'.cell? ⟨gv, i * 4, none⟩ = some (.int .i64 n1) ∧ w'.cell? ⟨gv, i * 4 + 1, none⟩ = some (.int .i64 L1) ∧ w'.cell? ⟨gv, i * 4 + 2, none⟩ = some (.pointer p1) ∧ w'.cell? ⟨gv, i * 4 + 3, none⟩ = some (.slice A1 m1 c1) ∧ w'.cell? ⟨gl, i, none⟩ = some (.slice As2 ns2 cs2))
            ((refine ⟨?_, ?_, ?_, ?_, ?_⟩ <;> first | (with_reducible exact cell_below c0 (by assumption)) | (with_reducible exact cell_below c1' (by assumption)) | (with_reducible exact cell_below c2 (by assumption)) | (with_reducible exact cell_below c3 (by assumption)) | (with_reducible exact cell_below c4 (by assumption)) | (go_keep; done)))
            (first
              | (go_at_call 22; (with_reducible refine (HSM.out _ (Below.drew hb)).mono ?_); rintro e wz ⟨v, rfl, rfl, hbz⟩; have hbz' : Below wr.heap.size wr wz := below_trans (w1 := wr.drew) (Below.refl _ _).drew hbz)
              | fail)
          go_wp2_with fail
          go_roundg k
          case measure => omega
          case rel =>
            show SeqI _ _ _ _ _
            exact ⟨i + 1, by first | rfl | (push_cast; rfl), by omega, below_trans hb hbz'⟩

theorem does_walk (v : Value) (os : List S43) (ask : Int) (W : World) (hO : OpsV W v os) (_ : (Lit.int .i64 ask).wf = true) :
    Calls Try.prog 5 #[v, .int .i64 ask] W fun e W' => e = .returned (.bool true) ∧ Below W.heap.size W W' := by
  obtain ⟨r, h1, h2⟩ := few_c W v os hO
  cases r with
  | false => exact dd_out v ask W h2
  | true => exact dd_in v ask os W hO (h1 rfl).1 (h1 rfl).2 h2
end Go.Proofs.Ytmoakgacffjblaa.Pv
