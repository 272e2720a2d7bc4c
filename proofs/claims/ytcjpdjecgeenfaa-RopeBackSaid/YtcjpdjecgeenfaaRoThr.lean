/- Slices of structs of whole numbers as arguments; the numbers' bounds. -/
import Derived.Test.YtcjpdjecgeenfaaRoTwo
import Derived.Deep.Slices
import Derived.Deep.Fields
import Derived.ChangeSame
import Derived.OpenShut
import Derived.Deep.RegionHeld3
import Derived.Test.YtcjpdjecgeenfaaWMore
import Derived.Maps.AppendAt
import Derived.Deep.DeepCutAuto
set_option linter.unusedVariables false
set_option linter.unusedSimpArgs false
section
namespace Go.Proofs.Ytcjpdjecgeenfaa.Rlw
open Go Go.ChangeShapes Go.WideShapes Go.Deep

theorem all_ints : ∀ (cs : List Value), (∀ (j : Nat) u, cs[j]? = some u → ∃ z : Int, u = .int .i64 z ∧ (Lit.int .i64 z).wf = true) → ∃ zs : List Int, cs = zs.map (Value.int .i64) ∧ ∀ z ∈ zs, (Lit.int .i64 z).wf = true
  | [], _ => ⟨[], rfl, fun z h => by cases h⟩
  | c :: cs, h => by
    obtain ⟨z, rfl, hz⟩ := h 0 c rfl
    obtain ⟨zs, rfl, hzs⟩ := all_ints cs fun j u hu => h (j + 1) u (by simpa using hu)
    exact ⟨z :: zs, rfl, fun x hx => by rcases List.mem_cons.1 hx with rfl | hx; exact hz; exact hzs x hx⟩

section
variable {H : Type} {enc : TypeId × Value → H} {P : Program} {w : World} {base : Nat} {spare : Nat → Bool} {held : Bool}
/-- an argument that is a slice of structs of whole numbers -/
theorem open_intstructs {t e ti : TypeId} {fs : Array Field} {v : Value} {d : DataW H} {p : List MemPlace} {r : Reach} {b0 : Nat} (ht : P.underlying t = some (.slice e)) (he : P.underlying e = some (.struct fs)) (hi : P.underlying ti = some (.int .i64))
    (hone : oneCellFields P fs = true) (hf : fs.all (fun f => f.type == ti) = true) (hC : P.cellsOf e = fs.size) (hv : Value.okWide P w r b0 t v) (h : DataW.Trod enc P w base spare held t v d p) :
    ∃ (A : Option Addr) (len cap : Nat) (g : Nat → List Int), v = .slice A len cap ∧ len ≤ cap ∧ cap ≤ maxLen ∧ (0 < len → ∃ a, A = some a ∧ ∀ i, i < len → (g i).length = fs.size ∧ ∀ (j : Nat) z, (g i)[j]? = some z → w.cell? (a.add (i * fs.size + j)) = some (.int .i64 z) ∧ (Lit.int .i64 z).wf = true) := by
  obtain ⟨A, len, cap, rfl⟩ := okWide_slice ht hv
  obtain ⟨fuel, hf'⟩ := h
  rcases open_slice ht hf' with ⟨hcs, _⟩ | ⟨a, l, c, m, n, D, Pl, hcs, _, hl, hm, hmm, _, hel⟩
  · simp [Value.cells] at hcs
    obtain ⟨rfl, rfl, rfl⟩ := hcs
    exact ⟨none, 0, 0, fun _ => [], rfl, Nat.le_refl _, by simp [maxLen], fun h => absurd h (by omega)⟩
  · simp [Value.cells] at hcs
    obtain ⟨rfl, rfl, rfl⟩ := hcs
    have hlm : len ≤ m := by rw [hmm]; split <;> omega
    have hel' : ∀ i, ∃ zs : List Int, i < len → zs.length = fs.size ∧ ∀ (j : Nat) z, zs[j]? = some z → w.cell? (a.add (i * fs.size + j)) = some (.int .i64 z) ∧ (Lit.int .i64 z).wf = true := by
      intro i
      by_cases hil : i < len
      · obtain ⟨cs', hc, ht'⟩ := hel i (by omega)
        rw [hC] at hc
        obtain ⟨ys, n', hn', hy, hlen, hyl, hg⟩ := DataW.trod_struct he ht'
        obtain ⟨_, hcl, hat⟩ := World.cells?_some hc
        obtain ⟨zs, rfl, hwf⟩ := all_ints cs' fun j u hu => by
          have hj : j < fs.size := by have := (List.getElem?_eq_some_iff.1 hu).1; omega
          have hjf : fs[j]? = some fs[j] := Array.getElem?_eq_getElem hj
          obtain ⟨ho, hk⟩ := hone_of hone j fs[j] hjf
          have h1 := hg j fs[j] hjf
          have htt : fs[j].type = ti := by
            have := Array.all_eq_true.1 hf j hj
            simpa using this
          rw [ho, hk, htt] at h1
          have hd : (cs'.drop j).take 1 = [u] := by
            obtain ⟨hlt, hu'⟩ := List.getElem?_eq_some_iff.1 hu
            rw [List.drop_eq_getElem_cons hlt, hu']; rfl
          rw [hd, List.getElem?_eq_getElem (by omega)] at h1
          obtain ⟨z, hz, _, hw⟩ := DataW.trod_int hi h1
          simp at hz
          exact ⟨z, hz, hw⟩
        refine ⟨zs, fun _ => ⟨by simpa using hcl, fun j z hz => ?_⟩⟩
        have hj : j < fs.size := by have := (List.getElem?_eq_some_iff.1 hz).1; simp at hcl; omega
        have := hat j hj
        rw [← Go.Deep.add_add, this]
        exact ⟨by simp [hz], hwf z (List.mem_of_getElem? hz)⟩
      · exact ⟨[], fun h => absurd h hil⟩
    obtain ⟨g, hg⟩ := Classical.axiomOfChoice hel'
    exact ⟨some a, len, cap, g, rfl, hl, hm, fun _ => ⟨a, rfl, hg⟩⟩
end
end Go.Proofs.Ytcjpdjecgeenfaa.Rlw
end

section
namespace Go.Proofs.Ytcjpdjecgeenfaa.Ro
open Go Go.RowKit Go.Proofs.Ytcjpdjecgeenfaa.Mem Go.Proofs.YtcjpdjecgeenfaaW.PrintWords

theorem results_c3 {P : Program} {fn : Func} {p a b : Tmp} {ty ta tb : TypeId} (h : fn.results = #[.cell p ty, .tmp a, .tmp b]) (tmps : Array Value) (w : World) (g : Nat) (t : TypeId) (cs : Array Value) (fr : Nat × Nat) (d : TypeDesc)
    (hp : tmps.getD p undef = .pointer (some ⟨g, 0, none⟩)) (hg : w.heap[g]? = some (.cells cs t fr))
    (hu : P.underlying ty = some d) (hd : (match d with | .struct _ | .array _ _ => true | _ => false) = true) (hi : (P.info? ty).map (·.size) = some cs.size) (va vb : Value) (ha : tmps.getD a undef = va) (hb : tmps.getD b undef = vb) :
    (results fn tmps).run P w = .ok (.tuple #[.agg cs, va, vb]) w := by
  have hp' : tmps[p]?.getD undef = .pointer (some ⟨g, 0, none⟩) := by simpa using hp
  have ha' : tmps[a]?.getD undef = va := by simpa using ha
  have hb' : tmps[b]?.getD undef = vb := by simpa using hb
  simp [results, h, hp', ha', hb', asAddr, run_loadVar_row w g t ty cs fr d hg hu hd hi]

theorem results_rt3 {fn : Func} {p a b : Tmp} (h : fn.results = #[.cell p RT, .tmp a, .tmp b]) (tmps : Array Value) (w : World) (g : Nat) (q : Option Addr) (va vb : Value) (hp : tmps.getD p undef = .pointer (some ⟨g, 0, none⟩)) (hg : w.heap[g]? = some (.cells #[.pointer q] RT (0, 0))) (ha : tmps.getD a undef = va) (hb : tmps.getD b undef = vb) :
    (results fn tmps).run Try.prog w = .ok (.tuple #[rope q, va, vb]) w :=
  results_c3 (ta := RT) (tb := RT) h tmps w g RT _ (0, 0) _ hp hg Try.underlying25 rfl (by kernel_rfl) va vb ha hb

theorem cell_put1 {w : World} {g i g' : Nat} {u : Value} (h : w.cell? ⟨g, i, none⟩ = some u) (hne : g ≠ g') (a : Value) : (w.setCell ⟨g', 0, none⟩ a).cell? ⟨g, i, none⟩ = some u := by
  rw [← h]
  exact World.cell?_of_block (Below.heap_setCell w ⟨g', 0, none⟩ a g hne)

theorem own_form {base : Nat} {w : World} {A : Option Addr} {n c : Nat} {ys : List Int} (h : Own base w (.slice A n c) ys) : n = ys.length ∧ (0 < ys.length → ∃ g, A = some ⟨g, 0, none⟩) := by
  rcases h.2 with ⟨h1, h0⟩ | ⟨g, cap, cur, h1, _⟩
  · injection h1 with h1 h2 h3
    exact ⟨by omega, fun hp => by omega⟩
  · injection h1 with h1 h2 h3
    exact ⟨h2, fun _ => ⟨g, h1⟩⟩

/-- what an operation gives -/
def OneP (K : Nat → Prop) (l : List Int) (u : Value) (w : World) : Prop := ∃ v s, u = .tuple #[v, s, .bool true] ∧ RopeV K w v l ∧ SlV K w s (ints l)

set_option maxRecDepth 500000 in
set_option maxHeartbeats 4000000 in
theorem one_else (K : Nat → Prop) (p : Option Addr) (As : Option Addr) (ns cs : Nat) (l : List Int) (I J X Z N : Int) (w : World) (hV : Tree K w p l) (hS : SlV K w (.slice As ns cs) (ints l)) (hK : ∀ b, K b → b < w.heap.size) (D : Int) (h0 : D ≠ 0) (h1 : D ≠ 1) (h2 : D ≠ 2) (h3 : D ≠ 3) (h6 : D ≠ 6) :
    Calls Try.prog 31 #[rope p, .slice As ns cs, .agg #[.int .i64 D, .int .i64 I, .int .i64 J, .int .i64 X, .int .i64 Z, .int .i64 N]] w (Ret (OneP (New K w) l) w) := by
  have HV := Lib.hid hV; clear hV
  have HS := Lib.hid hS; clear hS
  have HK := Lib.hid hK; clear hK
  have e0 : (D == 0) = false := beq_false_of_ne h0
  have e1 : (D == 1) = false := beq_false_of_ne h1
  have e2 : (D == 2) = false := beq_false_of_ne h2
  have e3 : (D == 3) = false := beq_false_of_ne h3
  have e6 : (D == 6) = false := beq_false_of_ne h6
  go_enter Try.func31, Try.ntmps31
  go_wp2_with fail
  generalize hW : (((w.alloc (.cells #[.pointer p] RT)).alloc (.cells #[.int .i64 D, .int .i64 I, .int .i64 J, .int .i64 X, .int .i64 Z, .int .i64 N] 59)).alloc (.cells #[.pointer p] RT)).alloc (.cells #[.pointer none] RT) = W
  have hBW : Below w.heap.size w W := by rw [← hW]; go_grown
  have B2 : W.heap[w.heap.size + 1 + 1]? = some (.cells #[.pointer p] RT (0, 0)) := by rw [← hW]; exact blk_alloc (heap_k2 w _ _ _) _
  clear hW
  refine bodyPost_ret (results_rt3 rfl _ _ (w.heap.size + 1 + 1) p (.slice As ns cs) (.bool true) rfl B2 rfl rfl) rfl ?_
  exact ⟨_, rfl, ⟨_, _, rfl, ⟨p, rfl, (HV.out.below hBW).mono fun b h => New.old h⟩, (HS.out.below hBW).mono fun b h => New.old h⟩, hBW⟩

theorem setv_in (K : Nat → Prop) (p : Option Addr) (xs : List Int) (i x : Int) (w : World) (h : Tree K w p xs) (hi : 0 ≤ i ∧ i < xs.length) (hl : xs.length ≤ 1000000) :
    Calls Try.prog 41 #[rope p, .int .i64 i, .int .i64 x] w (Ret (fun v w' => ∃ u, v = .tuple #[u, .int .i64 0] ∧ RopeV (New K w) w' u (xs.set i.toNat x)) w) := by
  have := setr_in K p xs i.toNat x w h (by omega) hl
  rwa [show ((i.toNat : Nat) : Int) = i by omega] at this

set_option maxRecDepth 500000 in
set_option maxHeartbeats 4000000 in
theorem one_ins_in (K : Nat → Prop) (p : Option Addr) (As : Option Addr) (ns cs : Nat) (l : List Int) (I J X Z N : Int) (w : World) (hV : Tree K w p l) (hS : SlV K w (.slice As ns cs) (ints l)) (hK : ∀ b, K b → b < w.heap.size) (hl : l.length ≤ 900000) (hI : 0 ≤ I ∧ I ≤ l.length) :
    Calls Try.prog 31 #[rope p, .slice As ns cs, .agg #[.int .i64 0, .int .i64 I, .int .i64 J, .int .i64 X, .int .i64 Z, .int .i64 N]] w (Ret (OneP (New K w) (l.take I.toNat ++ X :: l.drop I.toNat)) w) := by
  have HCV := Lib.hid (fun V (hw : Below w.heap.size w V) => insert_in K p l I X V (hV.below hw) hI.1 hI.2 (by omega))
  have HCR := Lib.hid (fun V (hw : Below w.heap.size w V) => rinsert_in K (.slice As ns cs) l (by omega) I X hI V (hS.below hw))
  have HV := Lib.hid hV; clear hV
  have HS := Lib.hid hS; clear hS
  have HK := Lib.hid hK; clear hK
  clear hl hI
  go_enter Try.func31, Try.ntmps31
  go_wp2_with fail
  generalize hW : (((w.alloc (.cells #[.pointer p] RT)).alloc (.cells #[.int .i64 0, .int .i64 I, .int .i64 J, .int .i64 X, .int .i64 Z, .int .i64 N] 59)).alloc (.cells #[.pointer none] RT)).alloc (.cells #[.pointer none] RT) = W
  have hBW : Below w.heap.size w W := by rw [← hW]; go_grown
  have hSW : W.heap.size = w.heap.size + 4 := by rw [← hW]; simp
  have B0 : W.heap[w.heap.size]? = some (.cells #[.pointer p] RT (0, 0)) := by rw [← hW]; exact blk_alloc (blk_alloc (blk_alloc (blk_new w _) _) _) _
  have B1 : W.heap[w.heap.size + 1]? = some (.cells #[.int .i64 0, .int .i64 I, .int .i64 J, .int .i64 X, .int .i64 Z, .int .i64 N] 59 (0, 0)) := by rw [← hW]; exact blk_alloc (blk_alloc (heap_k1 w _ _) _) _
  have B2 : W.heap[w.heap.size + 1 + 1]? = some (.cells #[.pointer none] RT (0, 0)) := by rw [← hW]; exact blk_alloc (heap_k2 w _ _ _) _
  have B3 : W.heap[w.heap.size + 1 + 1 + 1]? = some (.cells #[.pointer none] RT (0, 0)) := by rw [← hW]; exact heap_k3 w _ _ _ _
  clear hW
  have HB0 := Lib.hid B0; have HB1 := Lib.hid B1; have HB2 := Lib.hid B2; have HB3 := Lib.hid B3
  obtain ⟨k0, f0⟩ := box1 B0
  obtain ⟨k3, f3⟩ := box1 B3
  have c1 : W.cell? ⟨w.heap.size + 1, 1, none⟩ = some (.int .i64 I) := blk_cell B1 1
  have c2 : W.cell? ⟨w.heap.size + 1, 2, none⟩ = some (.int .i64 J) := blk_cell B1 2
  have c4 : W.cell? ⟨w.heap.size + 1, 3, none⟩ = some (.int .i64 X) := blk_cell B1 3
  have c5 : W.cell? ⟨w.heap.size + 1, 5, none⟩ = some (.int .i64 N) := blk_cell B1 5
  clear B0 B1 B2 B3
  clear k0 f0
  go_wp2_with (first
    | (go_at_call 24; ((with_reducible refine (HCV.out _ hBW).mono ?_); rintro e w5 ⟨v, rfl, ⟨u, rfl, hu⟩, hb5⟩; obtain ⟨t5, rfl, hT5⟩ := hu; have HT5 := Lib.hid hT5; have hB5 : Below w.heap.size w w5 := below_trans hBW hb5; have HB25 := Lib.hid (blk_below HB2.out hb5); have HB35 := Lib.hid (blk_below HB3.out hb5); clear k3 f3; obtain ⟨k3, f3⟩ := box1 HB35.out; have d1 := cell_below c1 hb5; have d4 := cell_below c4 hb5; clear c1 c2 c4 c5 hT5))
    | (go_at_call 40; ((with_reducible refine (HCR.out _ (by go_grown)).mono ?_); rintro e w6 ⟨v, rfl, ⟨vs, rfl, hO⟩, hb6⟩; obtain ⟨A6, n6, c6, rfl⟩ := hO.slv.form; have HO := Lib.hid hO.slv; clear hO k3 f3; have HB36 := Lib.hid (blk_below (blk_put HB35.out 0 (.pointer t5) rfl) hb6); have HB26 := Lib.hid (blk_below (blk_far HB25.out (by show w.heap.size + 1 + 1 ≠ w.heap.size + 1 + 1 + 1; omega) (.pointer t5)) hb6); obtain ⟨k3, f3⟩ := box1 HB36.out; obtain ⟨k2, f2⟩ := box1 HB26.out)))
  refine bodyPost_ret (results_rt3 rfl _ _ (w.heap.size + 1 + 1) t5 (.slice A6 n6 c6) (.bool true) rfl (blk_put HB26.out 0 _ rfl) rfl rfl) rfl ?_
  have hn3 : ¬ New K W (w.heap.size + 1 + 1 + 1) := fun h => h.elim (fun h => by have := HK.out _ h; omega) (fun h => by have h' : W.heap.size ≤ w.heap.size + 1 + 1 + 1 := h; omega)
  have hn2 : ¬ New K W (w.heap.size + 1 + 1) := fun h => h.elim (fun h => by have := HK.out _ h; omega) (fun h => by have h' : W.heap.size ≤ w.heap.size + 1 + 1 := h; omega)
  have hs5 := hb5.size
  have hB6 : Below w.heap.size w w6 := below_trans (hB5.setCell (p := ⟨w.heap.size + 1 + 1 + 1, 0, none⟩) (by show w.heap.size ≤ w.heap.size + 1 + 1 + 1; omega) _) hb6
  refine ⟨_, rfl, ⟨_, _, rfl, ⟨t5, rfl, ?_⟩, ?_⟩, hB6.setCell (by show w.heap.size ≤ w.heap.size + 1 + 1; omega) _⟩
  · exact (tree_far ((tree_far HT5.out (w.heap.size + 1 + 1 + 1) 0 (.pointer t5) hn3).below hb6) _ _ _ hn2).mono fun b h => New.of hBW.size h
  · refine (slv_far (HO.out.mono (K' := fun b => W.heap.size ≤ b) fun b h => ?_) _ _ _ (by show ¬ W.heap.size ≤ w.heap.size + 1 + 1; omega)).mono fun b h => New.fresh (Nat.le_trans hBW.size h)
    have h' : (w5.setCell ⟨w.heap.size + 1 + 1 + 1, 0, none⟩ (.pointer t5)).heap.size ≤ b := h
    rw [World.size_setCell] at h'
    exact Nat.le_trans hs5 h'

set_option maxRecDepth 500000 in
set_option maxHeartbeats 4000000 in
theorem one_ins_no (K : Nat → Prop) (p : Option Addr) (As : Option Addr) (ns cs : Nat) (l : List Int) (I J X Z N : Int) (w : World) (hV : Tree K w p l) (hS : SlV K w (.slice As ns cs) (ints l)) (hK : ∀ b, K b → b < w.heap.size) (hI : ¬ (0 ≤ I ∧ I ≤ l.length)) :
    Calls Try.prog 31 #[rope p, .slice As ns cs, .agg #[.int .i64 0, .int .i64 I, .int .i64 J, .int .i64 X, .int .i64 Z, .int .i64 N]] w (Ret (OneP (New K w) l) w) := by
  have HCV := Lib.hid (fun V (hw : Below w.heap.size w V) => insert_out K p l I X V (hV.below hw) (by omega))
  have HCR := Lib.hid (fun V (hw : Below w.heap.size w V) => rinsert_no K (.slice As ns cs) l I X hI V (hS.below hw))
  have HL0 := Lib.hid (fun V => len_c (fun _ => False) none [] V (Or.inl ⟨rfl, rfl⟩))
  have HV := Lib.hid hV; clear hV
  have HS := Lib.hid hS; clear hS
  have HK := Lib.hid hK; clear hK
  clear hI
  go_enter Try.func31, Try.ntmps31
  go_wp2_with fail
  generalize hW : (((w.alloc (.cells #[.pointer p] RT)).alloc (.cells #[.int .i64 0, .int .i64 I, .int .i64 J, .int .i64 X, .int .i64 Z, .int .i64 N] 59)).alloc (.cells #[.pointer none] RT)).alloc (.cells #[.pointer none] RT) = W
  have hBW : Below w.heap.size w W := by rw [← hW]; go_grown
  have hSW : W.heap.size = w.heap.size + 4 := by rw [← hW]; simp
  have B0 : W.heap[w.heap.size]? = some (.cells #[.pointer p] RT (0, 0)) := by rw [← hW]; exact blk_alloc (blk_alloc (blk_alloc (blk_new w _) _) _) _
  have B1 : W.heap[w.heap.size + 1]? = some (.cells #[.int .i64 0, .int .i64 I, .int .i64 J, .int .i64 X, .int .i64 Z, .int .i64 N] 59 (0, 0)) := by rw [← hW]; exact blk_alloc (blk_alloc (heap_k1 w _ _) _) _
  have B2 : W.heap[w.heap.size + 1 + 1]? = some (.cells #[.pointer none] RT (0, 0)) := by rw [← hW]; exact blk_alloc (heap_k2 w _ _ _) _
  have B3 : W.heap[w.heap.size + 1 + 1 + 1]? = some (.cells #[.pointer none] RT (0, 0)) := by rw [← hW]; exact heap_k3 w _ _ _ _
  clear hW
  have HB0 := Lib.hid B0; have HB1 := Lib.hid B1; have HB2 := Lib.hid B2; have HB3 := Lib.hid B3
  obtain ⟨k0, f0⟩ := box1 B0
  obtain ⟨k3, f3⟩ := box1 B3
  have c1 : W.cell? ⟨w.heap.size + 1, 1, none⟩ = some (.int .i64 I) := blk_cell B1 1
  have c2 : W.cell? ⟨w.heap.size + 1, 2, none⟩ = some (.int .i64 J) := blk_cell B1 2
  have c4 : W.cell? ⟨w.heap.size + 1, 3, none⟩ = some (.int .i64 X) := blk_cell B1 3
  have c5 : W.cell? ⟨w.heap.size + 1, 5, none⟩ = some (.int .i64 N) := blk_cell B1 5
  clear B0 B1 B2 B3
  go_wp2_with (first
    | (go_at_call 24; ((with_reducible refine (HCV.out _ hBW).mono ?_); rintro e w5 ⟨v, rfl, rfl, hb5⟩; have hB5 : Below w.heap.size w w5 := below_trans hBW hb5; have HB05 := Lib.hid (blk_below HB0.out hb5); have HB25 := Lib.hid (blk_below HB2.out hb5); have HB35 := Lib.hid (blk_below HB3.out hb5); clear k3 f3 k0 f0; obtain ⟨k3, f3⟩ := box1 HB35.out; have d1 := cell_below c1 hb5; have d4 := cell_below c4 hb5; clear c1 c2 c4 c5))
    | (go_at_call 40; ((with_reducible refine (HCR.out _ (by go_grown)).mono ?_); rintro e w6 ⟨v, rfl, ⟨vs, rfl, hO⟩, hb6⟩; obtain ⟨A6, n6, c6, rfl⟩ := hO.slv.form; clear hO k3 f3; have HB36 := Lib.hid (blk_below (blk_put HB35.out 0 (.pointer none) rfl) hb6); have HB26 := Lib.hid (blk_below (blk_far HB25.out (by show w.heap.size + 1 + 1 ≠ w.heap.size + 1 + 1 + 1; omega) (.pointer none)) hb6); have HB06 := Lib.hid (blk_below (blk_far HB05.out (by show w.heap.size ≠ w.heap.size + 1 + 1 + 1; omega) (.pointer none)) hb6); obtain ⟨k3, f3⟩ := box1 HB36.out; obtain ⟨k2, f2⟩ := box1 HB26.out; obtain ⟨k0, f0⟩ := box1 HB06.out)))
  have H02 := Lib.hid (show w.heap.size ≠ w.heap.size + 1 + 1 by omega)
  have H32 := Lib.hid (show w.heap.size + 1 + 1 + 1 ≠ w.heap.size + 1 + 1 by omega)
  have hB6 : Below w.heap.size w w6 := below_trans (hB5.setCell (p := ⟨w.heap.size + 1 + 1 + 1, 0, none⟩) (by show w.heap.size ≤ w.heap.size + 1 + 1 + 1; omega) _) hb6
  go_region_held3 (fun w' => w'.cell? ⟨w.heap.size, 0, none⟩ = some (.pointer p) ∧ w'.cell? ⟨w.heap.size + 1 + 1 + 1, 0, none⟩ = some (.pointer none))
    ((refine ⟨?_, ?_⟩ <;> first | (with_reducible exact cell_below k0 (by assumption)) | (with_reducible exact cell_below k3 (by assumption)) | (with_reducible exact cell_put1 (cell_below k0 (by assumption)) H02.out _) | (with_reducible exact cell_put1 (cell_below k3 (by assumption)) H32.out _) | (go_keep; done)))
    (first
      | (go_at_call 21; (with_reducible refine (HL0.out _).mono ?_); rintro e w7 ⟨v, rfl, rfl, hb7⟩; have hw7 : Below w6.heap.size w6 w7 := below_trans (Below.refl _ _).drew hb7; obtain ⟨r0, e0⟩ := box1 (blk_below HB26.out hw7))
      | fail)
  go_wp2_with fail
  refine bodyPost_ret (results_rt3 rfl _ _ (w.heap.size + 1 + 1) p (.slice As ns cs) (.bool true) rfl (blk_put (blk_below HB26.out hw7) 0 _ rfl) rfl rfl) rfl ?_
  have hn2 : ¬ K (w.heap.size + 1 + 1) := fun h => by have := HK.out _ h; omega
  have hB7 : Below w.heap.size w w7 := below_trans hB6 hw7
  exact ⟨_, rfl, ⟨_, _, rfl, ⟨p, rfl, (tree_far (HV.out.below hB7) _ _ _ hn2).mono fun b h => New.old h⟩, (slv_far (HS.out.below hB7) _ _ _ hn2).mono fun b h => New.old h⟩, hB7.setCell (by show w.heap.size ≤ w.heap.size + 1 + 1; omega) _⟩

set_option maxRecDepth 500000 in
set_option maxHeartbeats 4000000 in
theorem one_set_in (K : Nat → Prop) (p : Option Addr) (As : Option Addr) (ns cs : Nat) (l : List Int) (I J X Z N : Int) (w : World) (hV : Tree K w p l) (hS : SlV K w (.slice As ns cs) (ints l)) (hK : ∀ b, K b → b < w.heap.size) (hl : l.length ≤ 900000) (hI : 0 ≤ I ∧ I < l.length) :
    Calls Try.prog 31 #[rope p, .slice As ns cs, .agg #[.int .i64 1, .int .i64 I, .int .i64 J, .int .i64 X, .int .i64 Z, .int .i64 N]] w (Ret (OneP (New K w) (l.set I.toNat X)) w) := by
  have HCV := Lib.hid (fun V (hw : Below w.heap.size w V) => setv_in K p l I X V (hV.below hw) hI (by omega))
  have HCR := Lib.hid (fun V (hw : Below w.heap.size w V) => rset_in K (.slice As ns cs) l (by omega) I X hI V (hS.below hw))
  have HV := Lib.hid hV; clear hV
  have HS := Lib.hid hS; clear hS
  have HK := Lib.hid hK; clear hK
  clear hl hI
  go_enter Try.func31, Try.ntmps31
  go_wp2_with fail
  generalize hW : (((w.alloc (.cells #[.pointer p] RT)).alloc (.cells #[.int .i64 1, .int .i64 I, .int .i64 J, .int .i64 X, .int .i64 Z, .int .i64 N] 59)).alloc (.cells #[.pointer none] RT)).alloc (.cells #[.pointer none] RT) = W
  have hBW : Below w.heap.size w W := by rw [← hW]; go_grown
  have hSW : W.heap.size = w.heap.size + 4 := by rw [← hW]; simp
  have B0 : W.heap[w.heap.size]? = some (.cells #[.pointer p] RT (0, 0)) := by rw [← hW]; exact blk_alloc (blk_alloc (blk_alloc (blk_new w _) _) _) _
  have B1 : W.heap[w.heap.size + 1]? = some (.cells #[.int .i64 1, .int .i64 I, .int .i64 J, .int .i64 X, .int .i64 Z, .int .i64 N] 59 (0, 0)) := by rw [← hW]; exact blk_alloc (blk_alloc (heap_k1 w _ _) _) _
  have B2 : W.heap[w.heap.size + 1 + 1]? = some (.cells #[.pointer none] RT (0, 0)) := by rw [← hW]; exact blk_alloc (heap_k2 w _ _ _) _
  have B3 : W.heap[w.heap.size + 1 + 1 + 1]? = some (.cells #[.pointer none] RT (0, 0)) := by rw [← hW]; exact heap_k3 w _ _ _ _
  clear hW
  have HB0 := Lib.hid B0; have HB1 := Lib.hid B1; have HB2 := Lib.hid B2; have HB3 := Lib.hid B3
  obtain ⟨k0, f0⟩ := box1 B0
  obtain ⟨k3, f3⟩ := box1 B3
  have c1 : W.cell? ⟨w.heap.size + 1, 1, none⟩ = some (.int .i64 I) := blk_cell B1 1
  have c2 : W.cell? ⟨w.heap.size + 1, 2, none⟩ = some (.int .i64 J) := blk_cell B1 2
  have c4 : W.cell? ⟨w.heap.size + 1, 3, none⟩ = some (.int .i64 X) := blk_cell B1 3
  have c5 : W.cell? ⟨w.heap.size + 1, 5, none⟩ = some (.int .i64 N) := blk_cell B1 5
  clear B0 B1 B2 B3
  clear k0 f0
  go_wp2_with (first
    | (go_at_call 41; ((with_reducible refine (HCV.out _ hBW).mono ?_); rintro e w5 ⟨v, rfl, ⟨u, rfl, hu⟩, hb5⟩; obtain ⟨t5, rfl, hT5⟩ := hu; have HT5 := Lib.hid hT5; have hB5 : Below w.heap.size w w5 := below_trans hBW hb5; have HB25 := Lib.hid (blk_below HB2.out hb5); have HB35 := Lib.hid (blk_below HB3.out hb5); clear k3 f3; obtain ⟨k3, f3⟩ := box1 HB35.out; have d1 := cell_below c1 hb5; have d4 := cell_below c4 hb5; clear c1 c2 c4 c5 hT5))
    | (go_at_call 42; ((with_reducible refine (HCR.out _ (by go_grown)).mono ?_); rintro e w6 ⟨v, rfl, ⟨vs, rfl, hO⟩, hb6⟩; obtain ⟨A6, n6, c6, rfl⟩ := hO.slv.form; have HO := Lib.hid hO.slv; clear hO k3 f3; have HB36 := Lib.hid (blk_below (blk_put HB35.out 0 (.pointer t5) rfl) hb6); have HB26 := Lib.hid (blk_below (blk_far HB25.out (by show w.heap.size + 1 + 1 ≠ w.heap.size + 1 + 1 + 1; omega) (.pointer t5)) hb6); obtain ⟨k3, f3⟩ := box1 HB36.out; obtain ⟨k2, f2⟩ := box1 HB26.out)))
  refine bodyPost_ret (results_rt3 rfl _ _ (w.heap.size + 1 + 1) t5 (.slice A6 n6 c6) (.bool true) rfl (blk_put HB26.out 0 _ rfl) rfl rfl) rfl ?_
  have hn3 : ¬ New K W (w.heap.size + 1 + 1 + 1) := fun h => h.elim (fun h => by have := HK.out _ h; omega) (fun h => by have h' : W.heap.size ≤ w.heap.size + 1 + 1 + 1 := h; omega)
  have hn2 : ¬ New K W (w.heap.size + 1 + 1) := fun h => h.elim (fun h => by have := HK.out _ h; omega) (fun h => by have h' : W.heap.size ≤ w.heap.size + 1 + 1 := h; omega)
  have hs5 := hb5.size
  have hB6 : Below w.heap.size w w6 := below_trans (hB5.setCell (p := ⟨w.heap.size + 1 + 1 + 1, 0, none⟩) (by show w.heap.size ≤ w.heap.size + 1 + 1 + 1; omega) _) hb6
  refine ⟨_, rfl, ⟨_, _, rfl, ⟨t5, rfl, ?_⟩, ?_⟩, hB6.setCell (by show w.heap.size ≤ w.heap.size + 1 + 1; omega) _⟩
  · exact (tree_far ((tree_far HT5.out (w.heap.size + 1 + 1 + 1) 0 (.pointer t5) hn3).below hb6) _ _ _ hn2).mono fun b h => New.of hBW.size h
  · refine (slv_far (HO.out.mono (K' := fun b => W.heap.size ≤ b) fun b h => ?_) _ _ _ (by show ¬ W.heap.size ≤ w.heap.size + 1 + 1; omega)).mono fun b h => New.fresh (Nat.le_trans hBW.size h)
    have h' : (w5.setCell ⟨w.heap.size + 1 + 1 + 1, 0, none⟩ (.pointer t5)).heap.size ≤ b := h
    rw [World.size_setCell] at h'
    exact Nat.le_trans hs5 h'

set_option maxRecDepth 500000 in
set_option maxHeartbeats 4000000 in
theorem one_set_no (K : Nat → Prop) (p : Option Addr) (As : Option Addr) (ns cs : Nat) (l : List Int) (I J X Z N : Int) (w : World) (hV : Tree K w p l) (hS : SlV K w (.slice As ns cs) (ints l)) (hK : ∀ b, K b → b < w.heap.size) (hI : ¬ (0 ≤ I ∧ I < l.length)) :
    Calls Try.prog 31 #[rope p, .slice As ns cs, .agg #[.int .i64 1, .int .i64 I, .int .i64 J, .int .i64 X, .int .i64 Z, .int .i64 N]] w (Ret (OneP (New K w) l) w) := by
  have HCV := Lib.hid (fun V (hw : Below w.heap.size w V) => setr_out K p l I X V (hV.below hw) (by omega))
  have HCR := Lib.hid (fun V (hw : Below w.heap.size w V) => rset_no K (.slice As ns cs) l I X hI V (hS.below hw))
  have HL0 := Lib.hid (fun V => len_c (fun _ => False) none [] V (Or.inl ⟨rfl, rfl⟩))
  have HV := Lib.hid hV; clear hV
  have HS := Lib.hid hS; clear hS
  have HK := Lib.hid hK; clear hK
  clear hI
  go_enter Try.func31, Try.ntmps31
  go_wp2_with fail
  generalize hW : (((w.alloc (.cells #[.pointer p] RT)).alloc (.cells #[.int .i64 1, .int .i64 I, .int .i64 J, .int .i64 X, .int .i64 Z, .int .i64 N] 59)).alloc (.cells #[.pointer none] RT)).alloc (.cells #[.pointer none] RT) = W
  have hBW : Below w.heap.size w W := by rw [← hW]; go_grown
  have hSW : W.heap.size = w.heap.size + 4 := by rw [← hW]; simp
  have B0 : W.heap[w.heap.size]? = some (.cells #[.pointer p] RT (0, 0)) := by rw [← hW]; exact blk_alloc (blk_alloc (blk_alloc (blk_new w _) _) _) _
  have B1 : W.heap[w.heap.size + 1]? = some (.cells #[.int .i64 1, .int .i64 I, .int .i64 J, .int .i64 X, .int .i64 Z, .int .i64 N] 59 (0, 0)) := by rw [← hW]; exact blk_alloc (blk_alloc (heap_k1 w _ _) _) _
  have B2 : W.heap[w.heap.size + 1 + 1]? = some (.cells #[.pointer none] RT (0, 0)) := by rw [← hW]; exact blk_alloc (heap_k2 w _ _ _) _
  have B3 : W.heap[w.heap.size + 1 + 1 + 1]? = some (.cells #[.pointer none] RT (0, 0)) := by rw [← hW]; exact heap_k3 w _ _ _ _
  clear hW
  have HB0 := Lib.hid B0; have HB1 := Lib.hid B1; have HB2 := Lib.hid B2; have HB3 := Lib.hid B3
  obtain ⟨k0, f0⟩ := box1 B0
  obtain ⟨k3, f3⟩ := box1 B3
  have c1 : W.cell? ⟨w.heap.size + 1, 1, none⟩ = some (.int .i64 I) := blk_cell B1 1
  have c2 : W.cell? ⟨w.heap.size + 1, 2, none⟩ = some (.int .i64 J) := blk_cell B1 2
  have c4 : W.cell? ⟨w.heap.size + 1, 3, none⟩ = some (.int .i64 X) := blk_cell B1 3
  have c5 : W.cell? ⟨w.heap.size + 1, 5, none⟩ = some (.int .i64 N) := blk_cell B1 5
  clear B0 B1 B2 B3
  go_wp2_with (first
    | (go_at_call 41; ((with_reducible refine (HCV.out _ hBW).mono ?_); rintro e w5 ⟨v, rfl, rfl, hb5⟩; have hB5 : Below w.heap.size w w5 := below_trans hBW hb5; have HB05 := Lib.hid (blk_below HB0.out hb5); have HB25 := Lib.hid (blk_below HB2.out hb5); have HB35 := Lib.hid (blk_below HB3.out hb5); clear k3 f3 k0 f0; obtain ⟨k3, f3⟩ := box1 HB35.out; have d1 := cell_below c1 hb5; have d4 := cell_below c4 hb5; clear c1 c2 c4 c5))
    | (go_at_call 42; ((with_reducible refine (HCR.out _ (by go_grown)).mono ?_); rintro e w6 ⟨v, rfl, ⟨vs, rfl, hO⟩, hb6⟩; obtain ⟨A6, n6, c6, rfl⟩ := hO.slv.form; clear hO k3 f3; have HB36 := Lib.hid (blk_below (blk_put HB35.out 0 (.pointer none) rfl) hb6); have HB26 := Lib.hid (blk_below (blk_far HB25.out (by show w.heap.size + 1 + 1 ≠ w.heap.size + 1 + 1 + 1; omega) (.pointer none)) hb6); have HB06 := Lib.hid (blk_below (blk_far HB05.out (by show w.heap.size ≠ w.heap.size + 1 + 1 + 1; omega) (.pointer none)) hb6); obtain ⟨k3, f3⟩ := box1 HB36.out; obtain ⟨k2, f2⟩ := box1 HB26.out; obtain ⟨k0, f0⟩ := box1 HB06.out)))
  have H02 := Lib.hid (show w.heap.size ≠ w.heap.size + 1 + 1 by omega)
  have H32 := Lib.hid (show w.heap.size + 1 + 1 + 1 ≠ w.heap.size + 1 + 1 by omega)
  have hB6 : Below w.heap.size w w6 := below_trans (hB5.setCell (p := ⟨w.heap.size + 1 + 1 + 1, 0, none⟩) (by show w.heap.size ≤ w.heap.size + 1 + 1 + 1; omega) _) hb6
  go_region_held3 (fun w' => w'.cell? ⟨w.heap.size, 0, none⟩ = some (.pointer p) ∧ w'.cell? ⟨w.heap.size + 1 + 1 + 1, 0, none⟩ = some (.pointer none))
    ((refine ⟨?_, ?_⟩ <;> first | (with_reducible exact cell_below k0 (by assumption)) | (with_reducible exact cell_below k3 (by assumption)) | (with_reducible exact cell_put1 (cell_below k0 (by assumption)) H02.out _) | (with_reducible exact cell_put1 (cell_below k3 (by assumption)) H32.out _) | (go_keep; done)))
    (first
      | (go_at_call 21; (with_reducible refine (HL0.out _).mono ?_); rintro e w7 ⟨v, rfl, rfl, hb7⟩; have hw7 : Below w6.heap.size w6 w7 := below_trans (Below.refl _ _).drew hb7; obtain ⟨r0, e0⟩ := box1 (blk_below HB26.out hw7))
      | fail)
  go_wp2_with fail
  refine bodyPost_ret (results_rt3 rfl _ _ (w.heap.size + 1 + 1) p (.slice As ns cs) (.bool true) rfl (blk_put (blk_below HB26.out hw7) 0 _ rfl) rfl rfl) rfl ?_
  have hn2 : ¬ K (w.heap.size + 1 + 1) := fun h => by have := HK.out _ h; omega
  have hB7 : Below w.heap.size w w7 := below_trans hB6 hw7
  exact ⟨_, rfl, ⟨_, _, rfl, ⟨p, rfl, (tree_far (HV.out.below hB7) _ _ _ hn2).mono fun b h => New.old h⟩, (slv_far (HS.out.below hB7) _ _ _ hn2).mono fun b h => New.old h⟩, hB7.setCell (by show w.heap.size ≤ w.heap.size + 1 + 1; omega) _⟩

set_option maxRecDepth 500000 in
set_option maxHeartbeats 4000000 in
theorem one_rem_in (K : Nat → Prop) (p : Option Addr) (As : Option Addr) (ns cs : Nat) (l : List Int) (I J X Z N : Int) (w : World) (hV : Tree K w p l) (hS : SlV K w (.slice As ns cs) (ints l)) (hK : ∀ b, K b → b < w.heap.size) (hl : l.length ≤ 900000) (hI : 0 ≤ I ∧ I < l.length) :
    Calls Try.prog 31 #[rope p, .slice As ns cs, .agg #[.int .i64 2, .int .i64 I, .int .i64 J, .int .i64 X, .int .i64 Z, .int .i64 N]] w (Ret (OneP (New K w) (l.take I.toNat ++ (l.drop I.toNat).drop 1)) w) := by
  have HCV := Lib.hid (fun V (hw : Below w.heap.size w V) => remove_in K p l I V (hV.below hw) hI.1 hI.2 (by omega))
  have HCR := Lib.hid (fun V (hw : Below w.heap.size w V) => rremove_in K (.slice As ns cs) l (by omega) I hI V (hS.below hw))
  have HV := Lib.hid hV; clear hV
  have HS := Lib.hid hS; clear hS
  have HK := Lib.hid hK; clear hK
  clear hl hI
  go_enter Try.func31, Try.ntmps31
  go_wp2_with fail
  generalize hW : (((w.alloc (.cells #[.pointer p] RT)).alloc (.cells #[.int .i64 2, .int .i64 I, .int .i64 J, .int .i64 X, .int .i64 Z, .int .i64 N] 59)).alloc (.cells #[.pointer none] RT)).alloc (.cells #[.pointer none] RT) = W
  have hBW : Below w.heap.size w W := by rw [← hW]; go_grown
  have hSW : W.heap.size = w.heap.size + 4 := by rw [← hW]; simp
  have B0 : W.heap[w.heap.size]? = some (.cells #[.pointer p] RT (0, 0)) := by rw [← hW]; exact blk_alloc (blk_alloc (blk_alloc (blk_new w _) _) _) _
  have B1 : W.heap[w.heap.size + 1]? = some (.cells #[.int .i64 2, .int .i64 I, .int .i64 J, .int .i64 X, .int .i64 Z, .int .i64 N] 59 (0, 0)) := by rw [← hW]; exact blk_alloc (blk_alloc (heap_k1 w _ _) _) _
  have B2 : W.heap[w.heap.size + 1 + 1]? = some (.cells #[.pointer none] RT (0, 0)) := by rw [← hW]; exact blk_alloc (heap_k2 w _ _ _) _
  have B3 : W.heap[w.heap.size + 1 + 1 + 1]? = some (.cells #[.pointer none] RT (0, 0)) := by rw [← hW]; exact heap_k3 w _ _ _ _
  clear hW
  have HB0 := Lib.hid B0; have HB1 := Lib.hid B1; have HB2 := Lib.hid B2; have HB3 := Lib.hid B3
  obtain ⟨k0, f0⟩ := box1 B0
  obtain ⟨k3, f3⟩ := box1 B3
  have c1 : W.cell? ⟨w.heap.size + 1, 1, none⟩ = some (.int .i64 I) := blk_cell B1 1
  have c2 : W.cell? ⟨w.heap.size + 1, 2, none⟩ = some (.int .i64 J) := blk_cell B1 2
  have c4 : W.cell? ⟨w.heap.size + 1, 3, none⟩ = some (.int .i64 X) := blk_cell B1 3
  have c5 : W.cell? ⟨w.heap.size + 1, 5, none⟩ = some (.int .i64 N) := blk_cell B1 5
  clear B0 B1 B2 B3
  clear k0 f0
  go_wp2_with (first
    | (go_at_call 25; ((with_reducible refine (HCV.out _ hBW).mono ?_); rintro e w5 ⟨v, rfl, ⟨u, rfl, hu⟩, hb5⟩; obtain ⟨t5, rfl, hT5⟩ := hu; have HT5 := Lib.hid hT5; have hB5 : Below w.heap.size w w5 := below_trans hBW hb5; have HB25 := Lib.hid (blk_below HB2.out hb5); have HB35 := Lib.hid (blk_below HB3.out hb5); clear k3 f3; obtain ⟨k3, f3⟩ := box1 HB35.out; have d1 := cell_below c1 hb5; have d4 := cell_below c4 hb5; clear c1 c2 c4 c5 hT5))
    | (go_at_call 43; ((with_reducible refine (HCR.out _ (by go_grown)).mono ?_); rintro e w6 ⟨v, rfl, ⟨vs, rfl, hO⟩, hb6⟩; obtain ⟨A6, n6, c6, rfl⟩ := hO.slv.form; have HO := Lib.hid hO.slv; clear hO k3 f3; have HB36 := Lib.hid (blk_below (blk_put HB35.out 0 (.pointer t5) rfl) hb6); have HB26 := Lib.hid (blk_below (blk_far HB25.out (by show w.heap.size + 1 + 1 ≠ w.heap.size + 1 + 1 + 1; omega) (.pointer t5)) hb6); obtain ⟨k3, f3⟩ := box1 HB36.out; obtain ⟨k2, f2⟩ := box1 HB26.out)))
  refine bodyPost_ret (results_rt3 rfl _ _ (w.heap.size + 1 + 1) t5 (.slice A6 n6 c6) (.bool true) rfl (blk_put HB26.out 0 _ rfl) rfl rfl) rfl ?_
  have hn3 : ¬ New K W (w.heap.size + 1 + 1 + 1) := fun h => h.elim (fun h => by have := HK.out _ h; omega) (fun h => by have h' : W.heap.size ≤ w.heap.size + 1 + 1 + 1 := h; omega)
  have hn2 : ¬ New K W (w.heap.size + 1 + 1) := fun h => h.elim (fun h => by have := HK.out _ h; omega) (fun h => by have h' : W.heap.size ≤ w.heap.size + 1 + 1 := h; omega)
  have hs5 := hb5.size
  have hB6 : Below w.heap.size w w6 := below_trans (hB5.setCell (p := ⟨w.heap.size + 1 + 1 + 1, 0, none⟩) (by show w.heap.size ≤ w.heap.size + 1 + 1 + 1; omega) _) hb6
  refine ⟨_, rfl, ⟨_, _, rfl, ⟨t5, rfl, ?_⟩, ?_⟩, hB6.setCell (by show w.heap.size ≤ w.heap.size + 1 + 1; omega) _⟩
  · exact (tree_far ((tree_far HT5.out (w.heap.size + 1 + 1 + 1) 0 (.pointer t5) hn3).below hb6) _ _ _ hn2).mono fun b h => New.of hBW.size h
  · refine (slv_far (HO.out.mono (K' := fun b => W.heap.size ≤ b) fun b h => ?_) _ _ _ (by show ¬ W.heap.size ≤ w.heap.size + 1 + 1; omega)).mono fun b h => New.fresh (Nat.le_trans hBW.size h)
    have h' : (w5.setCell ⟨w.heap.size + 1 + 1 + 1, 0, none⟩ (.pointer t5)).heap.size ≤ b := h
    rw [World.size_setCell] at h'
    exact Nat.le_trans hs5 h'

set_option maxRecDepth 500000 in
set_option maxHeartbeats 4000000 in
theorem one_rem_no (K : Nat → Prop) (p : Option Addr) (As : Option Addr) (ns cs : Nat) (l : List Int) (I J X Z N : Int) (w : World) (hV : Tree K w p l) (hS : SlV K w (.slice As ns cs) (ints l)) (hK : ∀ b, K b → b < w.heap.size) (hI : ¬ (0 ≤ I ∧ I < l.length)) :
    Calls Try.prog 31 #[rope p, .slice As ns cs, .agg #[.int .i64 2, .int .i64 I, .int .i64 J, .int .i64 X, .int .i64 Z, .int .i64 N]] w (Ret (OneP (New K w) l) w) := by
  have HCV := Lib.hid (fun V (hw : Below w.heap.size w V) => remove_out K p l I V (hV.below hw) (by omega))
  have HCR := Lib.hid (fun V (hw : Below w.heap.size w V) => rremove_no K (.slice As ns cs) l I hI V (hS.below hw))
  have HL0 := Lib.hid (fun V => len_c (fun _ => False) none [] V (Or.inl ⟨rfl, rfl⟩))
  have HV := Lib.hid hV; clear hV
  have HS := Lib.hid hS; clear hS
  have HK := Lib.hid hK; clear hK
  clear hI
  go_enter Try.func31, Try.ntmps31
  go_wp2_with fail
  generalize hW : (((w.alloc (.cells #[.pointer p] RT)).alloc (.cells #[.int .i64 2, .int .i64 I, .int .i64 J, .int .i64 X, .int .i64 Z, .int .i64 N] 59)).alloc (.cells #[.pointer none] RT)).alloc (.cells #[.pointer none] RT) = W
  have hBW : Below w.heap.size w W := by rw [← hW]; go_grown
  have hSW : W.heap.size = w.heap.size + 4 := by rw [← hW]; simp
  have B0 : W.heap[w.heap.size]? = some (.cells #[.pointer p] RT (0, 0)) := by rw [← hW]; exact blk_alloc (blk_alloc (blk_alloc (blk_new w _) _) _) _
  have B1 : W.heap[w.heap.size + 1]? = some (.cells #[.int .i64 2, .int .i64 I, .int .i64 J, .int .i64 X, .int .i64 Z, .int .i64 N] 59 (0, 0)) := by rw [← hW]; exact blk_alloc (blk_alloc (heap_k1 w _ _) _) _
  have B2 : W.heap[w.heap.size + 1 + 1]? = some (.cells #[.pointer none] RT (0, 0)) := by rw [← hW]; exact blk_alloc (heap_k2 w _ _ _) _
  have B3 : W.heap[w.heap.size + 1 + 1 + 1]? = some (.cells #[.pointer none] RT (0, 0)) := by rw [← hW]; exact heap_k3 w _ _ _ _
  clear hW
  have HB0 := Lib.hid B0; have HB1 := Lib.hid B1; have HB2 := Lib.hid B2; have HB3 := Lib.hid B3
  obtain ⟨k0, f0⟩ := box1 B0
  obtain ⟨k3, f3⟩ := box1 B3
  have c1 : W.cell? ⟨w.heap.size + 1, 1, none⟩ = some (.int .i64 I) := blk_cell B1 1
  have c2 : W.cell? ⟨w.heap.size + 1, 2, none⟩ = some (.int .i64 J) := blk_cell B1 2
  have c4 : W.cell? ⟨w.heap.size + 1, 3, none⟩ = some (.int .i64 X) := blk_cell B1 3
  have c5 : W.cell? ⟨w.heap.size + 1, 5, none⟩ = some (.int .i64 N) := blk_cell B1 5
  clear B0 B1 B2 B3
  go_wp2_with (first
    | (go_at_call 25; ((with_reducible refine (HCV.out _ hBW).mono ?_); rintro e w5 ⟨v, rfl, rfl, hb5⟩; have hB5 : Below w.heap.size w w5 := below_trans hBW hb5; have HB05 := Lib.hid (blk_below HB0.out hb5); have HB25 := Lib.hid (blk_below HB2.out hb5); have HB35 := Lib.hid (blk_below HB3.out hb5); clear k3 f3 k0 f0; obtain ⟨k3, f3⟩ := box1 HB35.out; have d1 := cell_below c1 hb5; have d4 := cell_below c4 hb5; clear c1 c2 c4 c5))
    | (go_at_call 43; ((with_reducible refine (HCR.out _ (by go_grown)).mono ?_); rintro e w6 ⟨v, rfl, ⟨vs, rfl, hO⟩, hb6⟩; obtain ⟨A6, n6, c6, rfl⟩ := hO.slv.form; clear hO k3 f3; have HB36 := Lib.hid (blk_below (blk_put HB35.out 0 (.pointer none) rfl) hb6); have HB26 := Lib.hid (blk_below (blk_far HB25.out (by show w.heap.size + 1 + 1 ≠ w.heap.size + 1 + 1 + 1; omega) (.pointer none)) hb6); have HB06 := Lib.hid (blk_below (blk_far HB05.out (by show w.heap.size ≠ w.heap.size + 1 + 1 + 1; omega) (.pointer none)) hb6); obtain ⟨k3, f3⟩ := box1 HB36.out; obtain ⟨k2, f2⟩ := box1 HB26.out; obtain ⟨k0, f0⟩ := box1 HB06.out)))
  have H02 := Lib.hid (show w.heap.size ≠ w.heap.size + 1 + 1 by omega)
  have H32 := Lib.hid (show w.heap.size + 1 + 1 + 1 ≠ w.heap.size + 1 + 1 by omega)
  have hB6 : Below w.heap.size w w6 := below_trans (hB5.setCell (p := ⟨w.heap.size + 1 + 1 + 1, 0, none⟩) (by show w.heap.size ≤ w.heap.size + 1 + 1 + 1; omega) _) hb6
  go_region_held3 (fun w' => w'.cell? ⟨w.heap.size, 0, none⟩ = some (.pointer p) ∧ w'.cell? ⟨w.heap.size + 1 + 1 + 1, 0, none⟩ = some (.pointer none))
    ((refine ⟨?_, ?_⟩ <;> first | (with_reducible exact cell_below k0 (by assumption)) | (with_reducible exact cell_below k3 (by assumption)) | (with_reducible exact cell_put1 (cell_below k0 (by assumption)) H02.out _) | (with_reducible exact cell_put1 (cell_below k3 (by assumption)) H32.out _) | (go_keep; done)))
    (first
      | (go_at_call 21; (with_reducible refine (HL0.out _).mono ?_); rintro e w7 ⟨v, rfl, rfl, hb7⟩; have hw7 : Below w6.heap.size w6 w7 := below_trans (Below.refl _ _).drew hb7; obtain ⟨r0, e0⟩ := box1 (blk_below HB26.out hw7))
      | fail)
  go_wp2_with fail
  refine bodyPost_ret (results_rt3 rfl _ _ (w.heap.size + 1 + 1) p (.slice As ns cs) (.bool true) rfl (blk_put (blk_below HB26.out hw7) 0 _ rfl) rfl rfl) rfl ?_
  have hn2 : ¬ K (w.heap.size + 1 + 1) := fun h => by have := HK.out _ h; omega
  have hB7 : Below w.heap.size w w7 := below_trans hB6 hw7
  exact ⟨_, rfl, ⟨_, _, rfl, ⟨p, rfl, (tree_far (HV.out.below hB7) _ _ _ hn2).mono fun b h => New.old h⟩, (slv_far (HS.out.below hB7) _ _ _ hn2).mono fun b h => New.old h⟩, hB7.setCell (by show w.heap.size ≤ w.heap.size + 1 + 1; omega) _⟩
end Go.Proofs.Ytcjpdjecgeenfaa.Ro
end

section
namespace Go.Proofs.Ytcjpdjecgeenfaa.Ro
open Go Go.RowKit Go.Proofs.Ytcjpdjecgeenfaa.Mem Go.Proofs.YtcjpdjecgeenfaaW.PrintWords

set_option maxRecDepth 500000 in
set_option maxHeartbeats 4000000 in
theorem one_cut (K : Nat → Prop) (p : Option Addr) (As : Option Addr) (ns cs : Nat) (l : List Int) (I J X Z N : Int) (w : World) (hV : Tree K w p l) (hS : SlV K w (.slice As ns cs) (ints l)) (hK : ∀ b, K b → b < w.heap.size) (hl : l.length ≤ 900000) (hI : Wf I) (hJ : Wf J) :
    Calls Try.prog 31 #[rope p, .slice As ns cs, .agg #[.int .i64 3, .int .i64 I, .int .i64 J, .int .i64 X, .int .i64 Z, .int .i64 N]] w (Ret (OneP (New K w) (cutL l I J)) w) := by
  have HCV := Lib.hid (fun V (hw : Below w.heap.size w V) => slice_o K p l I J V (hV.below hw) hI hJ (by omega))
  have HCR := Lib.hid (fun V (hw : Below w.heap.size w V) => rslice_c K (.slice As ns cs) l (by omega) I J hI hJ V (hS.below hw))
  have HV := Lib.hid hV; clear hV
  have HS := Lib.hid hS; clear hS
  have HK := Lib.hid hK; clear hK
  clear hl hI hJ
  go_enter Try.func31, Try.ntmps31
  go_wp2_with fail
  generalize hW : (((w.alloc (.cells #[.pointer p] RT)).alloc (.cells #[.int .i64 3, .int .i64 I, .int .i64 J, .int .i64 X, .int .i64 Z, .int .i64 N] 59)).alloc (.cells #[.pointer none] RT)).alloc (.cells #[.pointer none] RT) = W
  have hBW : Below w.heap.size w W := by rw [← hW]; go_grown
  have hSW : W.heap.size = w.heap.size + 4 := by rw [← hW]; simp
  have B0 : W.heap[w.heap.size]? = some (.cells #[.pointer p] RT (0, 0)) := by rw [← hW]; exact blk_alloc (blk_alloc (blk_alloc (blk_new w _) _) _) _
  have B1 : W.heap[w.heap.size + 1]? = some (.cells #[.int .i64 3, .int .i64 I, .int .i64 J, .int .i64 X, .int .i64 Z, .int .i64 N] 59 (0, 0)) := by rw [← hW]; exact blk_alloc (blk_alloc (heap_k1 w _ _) _) _
  have B2 : W.heap[w.heap.size + 1 + 1]? = some (.cells #[.pointer none] RT (0, 0)) := by rw [← hW]; exact blk_alloc (heap_k2 w _ _ _) _
  have B3 : W.heap[w.heap.size + 1 + 1 + 1]? = some (.cells #[.pointer none] RT (0, 0)) := by rw [← hW]; exact heap_k3 w _ _ _ _
  clear hW
  have HB0 := Lib.hid B0; have HB1 := Lib.hid B1; have HB2 := Lib.hid B2; have HB3 := Lib.hid B3
  obtain ⟨k0, f0⟩ := box1 B0
  obtain ⟨k3, f3⟩ := box1 B3
  have c1 : W.cell? ⟨w.heap.size + 1, 1, none⟩ = some (.int .i64 I) := blk_cell B1 1
  have c2 : W.cell? ⟨w.heap.size + 1, 2, none⟩ = some (.int .i64 J) := blk_cell B1 2
  have c4 : W.cell? ⟨w.heap.size + 1, 3, none⟩ = some (.int .i64 X) := blk_cell B1 3
  have c5 : W.cell? ⟨w.heap.size + 1, 5, none⟩ = some (.int .i64 N) := blk_cell B1 5
  clear B0 B1 B2 B3
  have H03 := Lib.hid (show w.heap.size ≠ w.heap.size + 1 + 1 + 1 by omega)
  have H13 := Lib.hid (show w.heap.size + 1 ≠ w.heap.size + 1 + 1 + 1 by omega)
  have HBW := Lib.hid hBW; clear hBW c4 c5 f0
  go_region_held3 (fun w' => w'.cell? ⟨w.heap.size, 0, none⟩ = some (.pointer p) ∧ w'.cell? ⟨w.heap.size + 1, 1, none⟩ = some (.int .i64 I) ∧ w'.cell? ⟨w.heap.size + 1, 2, none⟩ = some (.int .i64 J))
    ((refine ⟨?_, ?_, ?_⟩ <;> first | (with_reducible exact cell_below k0 (by assumption)) | (with_reducible exact cell_below c1 (by assumption)) | (with_reducible exact cell_below c2 (by assumption)) | (with_reducible exact cell_put1 (cell_below k0 (by assumption)) H03.out _) | (with_reducible exact cell_put1 (cell_below c1 (by assumption)) H13.out _) | (with_reducible exact cell_put1 (cell_below c2 (by assumption)) H13.out _) | (go_keep; done)))
    (first
      | (go_at_call 22; (with_reducible refine (HCV.out _ (below_trans HBW.out ?_)).mono ?_); (first | (with_reducible assumption) | exact (Below.refl _ _).drew); rintro e w5 ⟨v, rfl, hR5, hb5⟩; obtain ⟨t5, rfl, hT5⟩ := hR5; have hw5 : Below W.heap.size W w5 := below_trans (by first | (with_reducible assumption) | exact (Below.refl _ _).drew) hb5; obtain ⟨r0, e0⟩ := box1 (blk_below HB3.out hw5))
      | (go_at_call 44; (with_reducible refine (HCR.out _ (below_trans HBW.out ?_)).mono ?_); (first | (with_reducible assumption) | exact (Below.refl _ _).drew); rintro e w6 ⟨v, rfl, hO6, hb6⟩; have hw6 : Below W.heap.size W w6 := below_trans (by first | (with_reducible assumption) | exact (Below.refl _ _).drew) hb6; obtain ⟨A6, n6, c6, rfl⟩ := hO6.slv.form; obtain ⟨r0, e0⟩ := box1 (blk_below HB3.out hw6))
      | fail)
  have hs5 : W.heap.size ≤ w5.heap.size := hw5.size
  have hT6 := hT5.below hb6
  have hS6 := hO6.slv
  have HB36 := Lib.hid (blk_put (blk_below HB3.out hw6) 0 (.pointer t5) rfl)
  have HB26 := Lib.hid (show (w6.setCell ⟨w.heap.size + 1 + 1 + 1, 0, none⟩ (.pointer t5)).heap[w.heap.size + 1 + 1]? = some (.cells #[.pointer none] RT (0, 0)) from blk_far (blk_below HB2.out hw6) (by show w.heap.size + 1 + 1 ≠ w.heap.size + 1 + 1 + 1; omega) (.pointer t5))
  obtain ⟨q3, g3⟩ := box1 HB36.out
  obtain ⟨q2, g2⟩ := box1 HB26.out
  have HT6 := Lib.hid hT6; have HS6 := Lib.hid hS6; have HW6 := Lib.hid hw6; have HS5 := Lib.hid hs5
  clear hT6 hS6 hT5 hO6 hs5
  go_wp2_with fail
  refine bodyPost_ret (results_rt3 rfl _ _ (w.heap.size + 1 + 1) t5 (.slice A6 n6 c6) (.bool true) rfl (blk_put HB26.out 0 _ rfl) rfl rfl) rfl ?_
  have hB6 : Below w.heap.size w w6 := below_trans HBW.out HW6.out
  have hnv : ∀ b, w.heap.size ≤ b → b < w.heap.size + 4 → ¬ New K W.drew b := fun b h1 h2 h => h.elim (fun h => by have := HK.out _ h; omega) (fun h => by have h' : W.heap.size ≤ b := h; omega)
  refine ⟨_, rfl, ⟨_, _, rfl, ⟨t5, rfl, (tree_far (tree_far HT6.out _ _ _ (hnv _ (by omega) (by omega))) _ _ _ (hnv _ (by omega) (by omega))).mono fun b h => New.of HBW.out.size h⟩, ?_⟩, (hB6.setCell (by show w.heap.size ≤ w.heap.size + 1 + 1 + 1; omega) _).setCell (by show w.heap.size ≤ w.heap.size + 1 + 1; omega) _⟩
  have hs := HS5.out
  refine (slv_far (slv_far (HS6.out.mono (K' := fun b => W.heap.size ≤ b) fun b h => Nat.le_trans hs h) _ _ _ (by show ¬ W.heap.size ≤ w.heap.size + 1 + 1 + 1; omega)) _ _ _ (by show ¬ W.heap.size ≤ w.heap.size + 1 + 1; omega)).mono fun b h => New.fresh (Nat.le_trans HBW.out.size h)

/-- the loop that writes over what was handed in -/
def OverL (w W0 : World) (base : Nat) (own : Value) (len : Nat) (k : Nat) (v102 : Value) (wr : World) : Prop :=
  ∃ (j : Nat) (ys : List Int), v102 = .int .i64 (j : Int) ∧ j + k = len ∧ ys.length = len ∧ Own base wr own ys ∧ (∀ b, some b ≠ own.ownBlock → wr.heap[b]? = W0.heap[b]?) ∧ wr.heap.size = W0.heap.size ∧ Below w.heap.size w wr

set_option maxRecDepth 500000 in
set_option maxHeartbeats 4000000 in
theorem one_of (K : Nat → Prop) (p : Option Addr) (As : Option Addr) (ns cs : Nat) (l : List Int) (I J X Z N : Int) (w : World) (hV : Tree K w p l) (hS : SlV K w (.slice As ns cs) (ints l)) (hK : ∀ b, K b → b < w.heap.size) (hN : N ≤ 10000) :
    Calls Try.prog 31 #[rope p, .slice As ns cs, .agg #[.int .i64 6, .int .i64 I, .int .i64 J, .int .i64 X, .int .i64 Z, .int .i64 N]] w (Ret (OneP (New K w) (runL X N.toNat)) w) := by
  have HV := Lib.hid hV; clear hV
  have HS := Lib.hid hS; clear hS
  have HK := Lib.hid hK; clear hK
  go_enter Try.func31, Try.ntmps31
  go_wp2_with fail
  generalize hW : (((w.alloc (.cells #[.pointer p] RT)).alloc (.cells #[.int .i64 6, .int .i64 I, .int .i64 J, .int .i64 X, .int .i64 Z, .int .i64 N] 59)).alloc (.cells #[.pointer none] RT)).alloc (.cells #[.pointer none] RT) = W
  have hBW : Below w.heap.size w W := by rw [← hW]; go_grown
  have hSW : W.heap.size = w.heap.size + 4 := by rw [← hW]; simp
  have B0 : W.heap[w.heap.size]? = some (.cells #[.pointer p] RT (0, 0)) := by rw [← hW]; exact blk_alloc (blk_alloc (blk_alloc (blk_new w _) _) _) _
  have B1 : W.heap[w.heap.size + 1]? = some (.cells #[.int .i64 6, .int .i64 I, .int .i64 J, .int .i64 X, .int .i64 Z, .int .i64 N] 59 (0, 0)) := by rw [← hW]; exact blk_alloc (blk_alloc (heap_k1 w _ _) _) _
  have B2 : W.heap[w.heap.size + 1 + 1]? = some (.cells #[.pointer none] RT (0, 0)) := by rw [← hW]; exact blk_alloc (heap_k2 w _ _ _) _
  have B3 : W.heap[w.heap.size + 1 + 1 + 1]? = some (.cells #[.pointer none] RT (0, 0)) := by rw [← hW]; exact heap_k3 w _ _ _ _
  clear hW
  have HB0 := Lib.hid B0; have HB1 := Lib.hid B1; have HB2 := Lib.hid B2; have HB3 := Lib.hid B3
  obtain ⟨k0, f0⟩ := box1 B0
  obtain ⟨k3, f3⟩ := box1 B3
  have c1 : W.cell? ⟨w.heap.size + 1, 1, none⟩ = some (.int .i64 I) := blk_cell B1 1
  have c2 : W.cell? ⟨w.heap.size + 1, 2, none⟩ = some (.int .i64 J) := blk_cell B1 2
  have c4 : W.cell? ⟨w.heap.size + 1, 3, none⟩ = some (.int .i64 X) := blk_cell B1 3
  have c5 : W.cell? ⟨w.heap.size + 1, 5, none⟩ = some (.int .i64 N) := blk_cell B1 5
  clear B0 B1 B2 B3
  have hNb : (N.toNat : Int) ≤ 10000 := by omega
  clear k0 f0 c1 c2
  go_wp2_with (first
    | (go_at_call 10; ((with_reducible refine (run_c X N ?_ _).mono ?_); (omega); rintro e w1 ⟨v, rfl, hO1, hb1⟩; obtain ⟨A1, n1, c1, rfl⟩ := hO1.slv.form; have HO1 := Lib.hid hO1; clear hO1; have HB21 := Lib.hid (blk_below HB2.out hb1); have HB31 := Lib.hid (blk_below HB3.out hb1)))
    | (go_at_call 45; ((with_reducible refine (copied_c _ _ _ ?_ _ HO1.out.slv).mono ?_); (rw [runL_length]; omega); rintro e w2 ⟨v, rfl, hO2, hb2⟩; obtain ⟨A2, n2, c2, rfl⟩ := hO2.slv.form; have HO2 := Lib.hid hO2; clear hO2; have HB22 := Lib.hid (blk_below HB21.out hb2); have HB32 := Lib.hid (blk_below HB31.out hb2)))
    | (go_at_call 9; ((with_reducible refine (of_c _ _ _ _ HO2.out.slv ?_).mono ?_); (rw [runL_length]; omega); rintro e w3 ⟨v, rfl, hR3, hb3⟩; obtain ⟨t3, rfl, hT3⟩ := hR3; have HT3 := Lib.hid hT3; clear hT3; have HB23 := Lib.hid (blk_below HB22.out hb3); have HB33 := Lib.hid (blk_below HB32.out hb3); clear k3 f3; obtain ⟨k3, f3⟩ := box1 HB33.out; have hB3 : Below w.heap.size w w3 := below_trans (below_trans (below_trans hBW hb1) hb2) hb3)))
  obtain ⟨hn2, hg2⟩ := own_form HO2.out
  rw [runL_length] at hn2
  subst hn2
  have hgb : Hid (∀ g, (Value.slice A2 N.toNat c2).ownBlock = some g → w1.heap.size ≤ g ∧ g < w2.heap.size) := Lib.hid fun g hg => ⟨own_base HO2.out g hg, own_lt HO2.out g hg⟩
  have hs1 : w.heap.size + 4 ≤ w1.heap.size := by have := hb1.size; omega
  have hs2 : w1.heap.size ≤ w2.heap.size := hb2.size
  have hs3 : w2.heap.size ≤ w3.heap.size := hb3.size
  obtain ⟨W4, hW4⟩ : ∃ W4, W4 = w3.setCell ⟨w.heap.size + 1 + 1 + 1, 0, none⟩ (.pointer t3) := ⟨_, rfl⟩
  rw [← hW4]
  have HB34 := Lib.hid (show W4.heap[w.heap.size + 1 + 1 + 1]? = some (.cells #[.pointer t3] RT (0, 0)) by rw [hW4]; exact blk_put HB33.out 0 _ rfl)
  have HB24 := Lib.hid (show W4.heap[w.heap.size + 1 + 1]? = some (.cells #[.pointer none] RT (0, 0)) by rw [hW4]; exact blk_far HB23.out (by show w.heap.size + 1 + 1 ≠ w.heap.size + 1 + 1 + 1; omega) _)
  have HO4 := Lib.hid (show Own w1.heap.size W4 (.slice A2 N.toNat c2) (runL X N.toNat) by
    refine own_move HO2.out fun g hg => ?_
    have h1 := hgb.out g hg
    rw [hW4, Below.heap_setCell _ _ _ _ (by show g ≠ w.heap.size + 1 + 1 + 1; omega)]
    exact hb3.block g h1.2)
  have HO14 := Lib.hid (show SlV (fun b => W.heap.size ≤ b ∧ b < w1.heap.size) W4 (.slice A1 n1 c1) (ints (runL X N.toNat)) by
    rw [hW4]
    exact slv_far ((HO1.out.slv.bound.below hb2).below hb3) _ _ _ (by rintro ⟨h, -⟩; have h' : W.heap.size ≤ w.heap.size + 1 + 1 + 1 := h; omega))
  have HT4 := Lib.hid (show Tree (Fresh w2) W4 t3 (runL X N.toNat) by rw [hW4]; exact tree_far HT3.out _ _ _ (by show ¬ w2.heap.size ≤ w.heap.size + 1 + 1 + 1; omega))
  have hB4 : Below w.heap.size w W4 := by rw [hW4]; exact hB3.setCell (by show w.heap.size ≤ w.heap.size + 1 + 1 + 1; omega) _
  have HS4 := Lib.hid (show W4.heap.size = w3.heap.size by rw [hW4, World.size_setCell])
  clear hW4 hg2 HO1 HO2 HT3 HB23 HB33 HB21 HB31 HB22 HB32 k3 f3 hb1 hb2 hb3 hB3
  go_wp2_with fail
  go_loopg [102] N.toNat (fun k v102 wr => Aside (OverL w W4 w1.heap.size (.slice A2 N.toNat c2) N.toNat k v102 wr))
  case atStart =>
    show OverL _ _ _ _ _ _ _ _
    exact ⟨0, runL X N.toNat, rfl, by omega, by simp, HO4.out, fun _ _ => rfl, rfl, hB4⟩
  case round =>
    obtain ⟨j, ys, rfl, hj, hys, hO, hF, hsz, hBr⟩ := hrel.out
    clear hrel
    have HF := Lib.hid hF; clear hF
    have HSZ := Lib.hid hsz; clear hsz
    have HY := Lib.hid hys; clear hys
    cases gk with
    | succ k =>
      obtain ⟨g, rfl⟩ := (own_form hO).2 (by rw [HY.out]; omega)
      have hjn : (j : Int) < (N.toNat : Int) := by omega
      obtain ⟨y, hy⟩ : ∃ y, ys[j]? = some y := ⟨_, List.getElem?_eq_getElem (by rw [HY.out]; omega)⟩
      have hc : wr.cell? ⟨g, j, none⟩ = some (.int .i64 y) := by
        have := World.ownsRow.cells hO (g := g) (by simp [Value.ownBlock]) j (.int .i64 y) (by simp [hy])
        rwa [add_head] at this
      have hO' : wr.ownsRow w1.heap.size 3 1 (.slice (some ⟨g, 0, none⟩) N.toNat c2) N.toNat (ints ys) := by have hx := hO; unfold Own at hx; rw [HY.out] at hx; exact hx
      have hf : wr.frozen? ⟨g, j, none⟩ = false := hO'.frozenAt j
      have HO := Lib.hid hO'; clear hO hO'
      have HYJ := Lib.hid hy; clear hy
      go_wp2
      go_roundg k
      case measure => omega
      case rel =>
        show OverL _ _ _ _ _ _ _ _
        have h1 := hgb.out g (by simp [Value.ownBlock])
        refine ⟨j + 1, ys.set j (wrap64 (y + 1)), by first | rfl | (push_cast; rfl), by omega, by rw [List.length_set]; exact HY.out, ?_, fun b hb => ?_, by rw [World.size_setCell]; exact HSZ.out, hBr.setCell (by show w.heap.size ≤ g; omega) _⟩
        · have := (HO.out.stored j (.int .i64 (wrap64 (y + 1)))).1
          unfold Own
          rw [List.length_set, HY.out]
          simpa [List.map_set] using this
        · have hbg : b ≠ g := by rintro rfl; exact hb (by simp [Value.ownBlock])
          rw [Below.heap_setCell _ _ _ _ (by exact hbg)]
          exact HF.out b hb
    | zero =>
      obtain rfl : j = N.toNat := by omega
      clear hj hO
      have hne2 : some (w.heap.size + 1 + 1) ≠ (Value.slice A2 N.toNat c2).ownBlock := fun e => by have := hgb.out _ e.symm; omega
      have hne3 : some (w.heap.size + 1 + 1 + 1) ≠ (Value.slice A2 N.toNat c2).ownBlock := fun e => by have := hgb.out _ e.symm; omega
      have B2 : wr.heap[w.heap.size + 1 + 1]? = some (.cells #[.pointer none] RT (0, 0)) := (HF.out _ hne2).trans HB24.out
      have B3 : wr.heap[w.heap.size + 1 + 1 + 1]? = some (.cells #[.pointer t3] RT (0, 0)) := (HF.out _ hne3).trans HB34.out
      have hT : Tree (Fresh w2) wr t3 (runL X N.toNat) := HT4.out.keep (fun _ h _ => h) fun b h _ => HF.out b fun e => by have := hgb.out _ e.symm; have h' : w2.heap.size ≤ b := h; omega
      have hSr : SlV (fun b => W.heap.size ≤ b ∧ b < w1.heap.size) wr (.slice A1 n1 c1) (ints (runL X N.toNat)) := HO14.out.keep fun b h _ => HF.out b fun e => by have := hgb.out _ e.symm; omega
      obtain ⟨k2, f2⟩ := box1 B2
      obtain ⟨k3, f3⟩ := box1 B3
      have HBr := Lib.hid B2; clear B2 B3
      have HTr := Lib.hid hT; clear hT
      have HSr := Lib.hid hSr; clear hSr
      go_wp2_with fail
      refine bodyPost_ret (results_rt3 rfl _ _ (w.heap.size + 1 + 1) t3 (.slice A1 n1 c1) (.bool true) rfl (blk_put HBr.out 0 _ rfl) rfl rfl) rfl ?_
      refine ⟨_, rfl, ⟨_, _, rfl, ⟨t3, rfl, (tree_far HTr.out _ _ _ (by show ¬ w2.heap.size ≤ w.heap.size + 1 + 1; omega)).mono fun b h => New.fresh (by have h' : w2.heap.size ≤ b := h; show w.heap.size ≤ b; omega)⟩, ?_⟩, hBr.setCell (by show w.heap.size ≤ w.heap.size + 1 + 1; omega) _⟩
      exact (slv_far HSr.out _ _ _ (by rintro ⟨h, -⟩; omega)).mono fun b h => New.fresh (by have h' : W.heap.size ≤ b := h.1; show w.heap.size ≤ b; omega)

/-- what an operation makes of a list -/
def oneL (l : List Int) (D I J X N : Int) : List Int :=
  if D = 0 then (if 0 ≤ I ∧ I ≤ l.length then l.take I.toNat ++ X :: l.drop I.toNat else l)
  else if D = 1 then (if 0 ≤ I ∧ I < l.length then l.set I.toNat X else l)
  else if D = 2 then (if 0 ≤ I ∧ I < l.length then l.take I.toNat ++ (l.drop I.toNat).drop 1 else l)
  else if D = 3 then cutL l I J
  else if D = 6 then runL X N.toNat
  else l

theorem oneL_len (l : List Int) (D I J X N : Int) (hN : N ≤ 1000) (hl : l.length ≤ 900000) (B : Nat) (hB : 1000 ≤ B) (h : l.length ≤ B) : (oneL l D I J X N).length ≤ B + 1 := by
  unfold oneL
  split
  · split
    · rw [List.length_append, List.length_cons, List.length_take, List.length_drop]; omega
    · omega
  split
  · split
    · rw [List.length_set]; omega
    · omega
  split
  · split
    · rw [List.length_append, List.length_take, List.length_drop, List.length_drop]; omega
    · omega
  split
  · unfold cutL; rw [List.length_drop, List.length_take]; omega
  split
  · rw [runL_length]; omega
  · omega

theorem oneP_mono {K K' : Nat → Prop} {l : List Int} {w : World} {e : Ending} {w' : World} (hK : ∀ b, K b → K' b) (h : Ret (OneP K l) w e w') : Ret (OneP K' l) w e w' := by
  obtain ⟨v, rfl, ⟨u, s, rfl, h1, h2⟩, hb⟩ := h
  exact ⟨_, rfl, ⟨u, s, rfl, h1.mono hK, h2.mono hK⟩, hb⟩

/-- WHAT AN OPERATION DOES. -/
theorem one_c (K : Nat → Prop) (p : Option Addr) (s : Value) (l : List Int) (D I J X Z N : Int) (w : World) (hV : Tree K w p l) (hS : SlV K w s (ints l)) (hl : l.length ≤ 900000) (hN : N ≤ 1000) (hI : Wf I) (hJ : Wf J) :
    Calls Try.prog 31 #[rope p, s, .agg #[.int .i64 D, .int .i64 I, .int .i64 J, .int .i64 X, .int .i64 Z, .int .i64 N]] w (Ret (OneP (New K w) (oneL l D I J X N)) w) := by
  have hV' := hV.bound
  have hS' := hS.bound
  obtain ⟨As, ns, cs, rfl⟩ := hS.form
  have hm : ∀ b, New (fun b => K b ∧ b < w.heap.size) w b → New K w b := fun b h => h.imp (fun h => h.1) id
  unfold oneL
  by_cases h0 : D = 0
  · subst h0
    rw [if_pos rfl]
    by_cases hi : 0 ≤ I ∧ I ≤ l.length
    · rw [if_pos hi]
      exact (one_ins_in _ p As ns cs l I J X Z N w hV' hS' (fun b h => h.2) hl hi).mono fun e w' h => oneP_mono hm h
    · rw [if_neg hi]
      exact (one_ins_no _ p As ns cs l I J X Z N w hV' hS' (fun b h => h.2) hi).mono fun e w' h => oneP_mono hm h
  rw [if_neg h0]
  by_cases h1 : D = 1
  · subst h1
    rw [if_pos rfl]
    by_cases hi : 0 ≤ I ∧ I < l.length
    · rw [if_pos hi]
      exact (one_set_in _ p As ns cs l I J X Z N w hV' hS' (fun b h => h.2) hl hi).mono fun e w' h => oneP_mono hm h
    · rw [if_neg hi]
      exact (one_set_no _ p As ns cs l I J X Z N w hV' hS' (fun b h => h.2) hi).mono fun e w' h => oneP_mono hm h
  rw [if_neg h1]
  by_cases h2 : D = 2
  · subst h2
    rw [if_pos rfl]
    by_cases hi : 0 ≤ I ∧ I < l.length
    · rw [if_pos hi]
      exact (one_rem_in _ p As ns cs l I J X Z N w hV' hS' (fun b h => h.2) hl hi).mono fun e w' h => oneP_mono hm h
    · rw [if_neg hi]
      exact (one_rem_no _ p As ns cs l I J X Z N w hV' hS' (fun b h => h.2) hi).mono fun e w' h => oneP_mono hm h
  rw [if_neg h2]
  by_cases h3 : D = 3
  · subst h3
    rw [if_pos rfl]
    exact (one_cut _ p As ns cs l I J X Z N w hV' hS' (fun b h => h.2) hl hI hJ).mono fun e w' h => oneP_mono hm h
  rw [if_neg h3]
  by_cases h6 : D = 6
  · subst h6
    rw [if_pos rfl]
    exact (one_of _ p As ns cs l I J X Z N w hV' hS' (fun b h => h.2) (by omega)).mono fun e w' h => oneP_mono hm h
  rw [if_neg h6]
  exact (one_else _ p As ns cs l I J X Z N w hV' hS' (fun b h => h.2) D h0 h1 h2 h3 h6).mono fun e w' h => oneP_mono hm h
end Go.Proofs.Ytcjpdjecgeenfaa.Ro
end

section
namespace Go.Proofs.Ytcjpdjecgeenfaa.Ro
open Go Go.RowKit Go.Proofs.Ytcjpdjecgeenfaa.Mem Go.Proofs.YtcjpdjecgeenfaaW.PrintWords Go.Proofs.Ytcjpdjecgeenfaa.PRopeDoes

/-- a slice of operations -/
def OpsV (w : World) (v : Value) (os : List S59) : Prop := ∃ A c, v = .slice A os.length c ∧ os.length ≤ 9223372036854775807 ∧ os.length ≤ c ∧ k59.C w A os.length os ∧ ∀ o ∈ os, Wf o.f1 ∧ Wf o.f2

theorem OpsV.below {w w' : World} {v : Value} {os : List S59} (h : OpsV w v os) (hb : Below w.heap.size w w') : OpsV w' v os := by
  obtain ⟨A, c, h1, h2, h3, h4, h5⟩ := h
  exact ⟨A, c, h1, h2, h3, Kd.C_below h4 hb, h5⟩

theorem OpsV.wf {w : World} {v : Value} {os : List S59} (h : OpsV w v os) : ∀ o ∈ os, Wf o.f1 ∧ Wf o.f2 := by
  obtain ⟨A, c, h1, h2, h3, h4, h5⟩ := h
  exact h5

theorem OpsV.at {w : World} {A : Option Addr} {n c : Nat} {os : List S59} (h : OpsV w (.slice A n c) os) (j : Nat) (hj : j < os.length) :
    ∃ (ad : Addr) (o : S59), A = some ad ∧ os[j]? = some o ∧ w.cell? (ad.add (j * 6)) = some (.int .i64 o.f0) ∧ w.cell? ⟨(ad.add (j * 6)).block, (ad.add (j * 6)).off + 1, none⟩ = some (.int .i64 o.f1) ∧ w.cell? ⟨(ad.add (j * 6)).block, (ad.add (j * 6)).off + 2, none⟩ = some (.int .i64 o.f2) ∧ w.cell? ⟨(ad.add (j * 6)).block, (ad.add (j * 6)).off + 3, none⟩ = some (.int .i64 o.f3) ∧ w.cell? ⟨(ad.add (j * 6)).block, (ad.add (j * 6)).off + 4, none⟩ = some (.int .i64 o.f4) ∧ w.cell? ⟨(ad.add (j * 6)).block, (ad.add (j * 6)).off + 5, none⟩ = some (.int .i64 o.f5) := by
  obtain ⟨A', c', he, h2, h3, h4, h5⟩ := h
  injection he with e1 e2 e3
  subst e1
  obtain ⟨ad, hA, h0, h1, h2, h3, h4, h5⟩ := at_T59 h4 (j : Int) (by omega) (by omega)
  have hr : rd_T59 os (j : Int) = os[j] := by
    unfold rd_T59
    rw [Int.toNat_natCast, List.getD_eq_getElem?_getD, List.getElem?_eq_getElem hj]; rfl
  rw [Int.toNat_natCast, hr] at h0 h1 h2 h3 h4 h5
  exact ⟨ad, os[j], hA, List.getElem?_eq_getElem hj, h0, h1, h2, h3, h4, h5⟩

theorem few_l0 (os : List S59) (hl : os.length ≤ 9223372036854775807) : ∀ (i j : Nat), j + i = os.length → ∀ k, i + 1 ≤ k →
    ∃ r, placketlaw08_few.l0 k os os (os.length : Int) (j : Int) = some r ∧ (r = true → os.length ≤ 40 ∧ ∀ (q : Nat) (o : S59), j ≤ q → os[q]? = some o → o.f5 ≤ 1000) := by
  intro i
  induction i with
  | zero =>
    intro j hj k hk
    obtain ⟨k, rfl⟩ : ∃ k', k = k' + 1 := ⟨k - 1, by omega⟩
    rw [placketlaw08_few.l0, if_neg (by omega)]
    refine ⟨_, rfl, fun h => ⟨by have := of_decide_eq_true h; omega, fun q o hq ho => ?_⟩⟩
    have := (List.getElem?_eq_some_iff.1 ho).1
    omega
  | succ i ih =>
    intro j hj k hk
    obtain ⟨k, rfl⟩ : ∃ k', k = k' + 1 := ⟨k - 1, by omega⟩
    have e1 : wrap64 ((j : Int) + 1) = ((j + 1 : Nat) : Int) := by unfold wrap64; omega
    have hjl : j < os.length := by omega
    have hr : rd_T59 os (j : Int) = os[j] := by
      unfold rd_T59
      rw [Int.toNat_natCast, List.getD_eq_getElem?_getD, List.getElem?_eq_getElem hjl]; rfl
    rw [placketlaw08_few.l0, if_pos (by omega), if_pos (by omega), if_pos (by omega), hr]
    by_cases c1 : os[j].f5 > 1000
    · rw [if_pos c1]; exact ⟨false, rfl, fun h => by cases h⟩
    rw [if_neg c1, e1]
    obtain ⟨r, h1, h2⟩ := ih (j + 1) (by omega) k (by omega)
    refine ⟨r, h1, fun h => ⟨(h2 h).1, fun q o hq ho => ?_⟩⟩
    by_cases hqj : q = j
    · subst hqj
      rw [List.getElem?_eq_getElem hjl] at ho
      injection ho with ho
      subst ho; omega
    · exact (h2 h).2 q o (by omega) ho

/-- WHETHER THESE ARE FEW OPERATIONS. -/
theorem few_c (w : World) (v : Value) (os : List S59) (h : OpsV w v os) :
    ∃ r : Bool, (r = true → os.length ≤ 40 ∧ ∀ (q : Nat) (o : S59), os[q]? = some o → o.f5 ≤ 1000) ∧ ∀ W, Below w.heap.size w W → Calls Try.prog 14 #[v] W (Ret (fun u _ => u = .bool r) W) := by
  obtain ⟨r, h1, h2⟩ := few_l0 os (by obtain ⟨_, _, _, h, _⟩ := h; exact h) os.length 0 (by omega) _ (Nat.le_refl _)
  refine ⟨r, fun hr => ⟨(h2 hr).1, fun q o ho => (h2 hr).2 q o (by omega) ho⟩, fun W hW => ?_⟩
  obtain ⟨A, c, rfl, _, h3, h4, _⟩ := h.below hW
  refine (placketlaw08_few.calls _ A c os r W h4 h3 h1).mono ?_
  rintro e w' ⟨rfl, hb⟩
  exact ⟨_, rfl, rfl, hb⟩

def opOf : List Int → S59
  | [a, b, c, d, e, f] => ⟨a, b, c, d, e, f⟩
  | _ => z59

theorem wf_of {a : Int} (h : (Lit.int .i64 a).wf = true) : Wf a := by
  have h2 : IntKind.i64.min = -9223372036854775808 := by decide
  have h3 : IntKind.i64.max = 9223372036854775807 := by decide
  simp [Lit.wf] at h
  unfold Wf
  omega

theorem opsV_open {H : Type} {enc : TypeId × Value → H} {w : World} {base : Nat} {spare : Nat → Bool} {held : Bool} {v : Value} {d : DataW H} {p : List MemPlace} {r : Reach} {b0 : Nat}
    (hv : Value.okWide Try.prog w r b0 35 v) (h : DataW.Trod enc Try.prog w base spare held 35 v d p) : ∃ os, OpsV w v os := by
  obtain ⟨A, len, cap, g, rfl, hl, hm, hg⟩ := Rlw.open_intstructs Try.underlying35 Try.underlying59 Try.underlying3 (by kernel_rfl) (by kernel_rfl) (by kernel_rfl) hv h
  have hlen : ((List.range len).map fun i => opOf (g i)).length = len := by simp
  refine ⟨(List.range len).map fun i => opOf (g i), A, cap, by rw [hlen], by rw [hlen]; unfold maxLen at hm; omega, by rw [hlen]; exact hl, ?_, ?_⟩
  · rw [hlen]
    refine ⟨hlen, by unfold maxLen at hm; omega, fun hp => ?_⟩
    obtain ⟨a, rfl, ha⟩ := hg hp
    refine ⟨a, rfl, fun j x hj => ?_⟩
    have hjl : j < len := by have := (List.getElem?_eq_some_iff.1 hj).1; rwa [hlen] at this
    obtain ⟨h4, hc⟩ := ha j hjl
    have hx : x = opOf (g j) := by
      rw [List.getElem?_map, List.getElem?_range hjl] at hj
      simpa using hj.symm
    subst hx
    have h4' : (g j).length = 6 := h4
    match hgj : g j, h4' with
    | [z0, z1, z2, z3, z4, z5], _ =>
      refine ⟨_, rfl, k59_mk w _, fun i u hu => ?_⟩
      rw [hgj] at hc
      match i with
      | 0 => have := (hc 0 z0 rfl).1; simp [opOf] at hu; rw [← hu]; exact this
      | 1 => have := (hc 1 z1 rfl).1; simp [opOf] at hu; rw [← hu]; exact this
      | 2 => have := (hc 2 z2 rfl).1; simp [opOf] at hu; rw [← hu]; exact this
      | 3 => have := (hc 3 z3 rfl).1; simp [opOf] at hu; rw [← hu]; exact this
      | 4 => have := (hc 4 z4 rfl).1; simp [opOf] at hu; rw [← hu]; exact this
      | 5 => have := (hc 5 z5 rfl).1; simp [opOf] at hu; rw [← hu]; exact this
      | i + 6 => simp at hu
  · intro o ho
    obtain ⟨j, hj, rfl⟩ := List.mem_map.1 ho
    have hjl : j < len := List.mem_range.1 hj
    obtain ⟨a, rfl, ha⟩ := hg (by omega)
    obtain ⟨h4, hc⟩ := ha j hjl
    have h4' : (g j).length = 6 := h4
    match hgj : g j, h4' with
    | [z0, z1, z2, z3, z4, z5], _ =>
      rw [hgj] at hc
      exact ⟨wf_of (hc 1 z1 rfl).2, wf_of (hc 2 z2 rfl).2⟩
end Go.Proofs.Ytcjpdjecgeenfaa.Ro
end

section
namespace Go.Proofs.Ytcjpdjecgeenfaa.Ro
open Go Go.RowKit Go.Proofs.Ytcjpdjecgeenfaa.Mem Go.Proofs.YtcjpdjecgeenfaaW.PrintWords Go.Proofs.YtcjpdjecgeenfaaW.PrintMore Go.Proofs.Ytcjpdjecgeenfaa.PRopeDoes
attribute [local go_sem] max2_int max_two

/-- where the ropes' things may lie -/
def KD (w : World) (vs ls : Value) : Nat → Prop := fun b => w.heap.size < b ∧ some b ≠ vs.ownBlock ∧ some b ≠ ls.ownBlock

abbrev Past := Option Addr × Value × List Int

/-- the rows of all ropes and of all lists so far -/
def Hist (w : World) (vs ls : Value) (hist : List Past) (wr : World) : Prop :=
  wr.ownsRow w.heap.size RT 1 vs hist.length (hist.map fun h => Value.pointer h.1) ∧ wr.ownsRow w.heap.size 27 1 ls hist.length (hist.map fun h => h.2.1) ∧
  (∀ h ∈ hist, Tree (KD w vs ls) wr h.1 h.2.2 ∧ SlV (KD w vs ls) wr h.2.1 (ints h.2.2) ∧ h.2.2.length ≤ 4000) ∧ some w.heap.size ≠ vs.ownBlock ∧ some w.heap.size ≠ ls.ownBlock

theorem Hist.apart {w : World} {vs ls : Value} {hist : List Past} {wr : World} (h : Hist w vs ls hist wr) : ls.ownBlock = none ∨ ls.ownBlock ≠ vs.ownBlock := by
  cases hl : ls.ownBlock with
  | none => exact .inl rfl
  | some k =>
    refine .inr fun e => ?_
    obtain ⟨c1, h1⟩ := own_typed h.2.1 k hl
    obtain ⟨c2, h2⟩ := own_typed h.1 k e.symm
    rw [h1] at h2
    injection h2 with h2
    injection h2 with _ h2
    exact absurd h2 (by decide)

theorem hist_push {w : World} {vs ls : Value} {hist : List Past} {W : World} (H : Hist w vs ls hist W) (hB : Below w.heap.size w W) (hwg : w.heap.size < W.heap.size) {p : Option Addr} {s : Value} {l : List Int} (hV : Tree (KD w vs ls) W p l) (hS : SlV (KD w vs ls) W s (ints l)) (hl : l.length ≤ 4000)
    {vs' : Value} {w7 : World} (o7 : w7.ownsRow w.heap.size RT 1 vs' (hist.length + 1) ((hist.map fun h => Value.pointer h.1) ++ [.pointer p])) (g7 : (W.alloc (.cells #[.pointer p] RT)).grownBy w7 vs.ownBlock) (a7 : vs'.ownBlock = vs.ownBlock ∨ vs'.ownBlock = some (W.alloc (.cells #[.pointer p] RT)).heap.size)
    {ls' : Value} {w8 : World} (o8 : w8.ownsRow w.heap.size 27 1 ls' (hist.length + 1) ((hist.map fun h => h.2.1) ++ [s])) (g8 : (w7.alloc (.cells #[s] 27)).grownBy w8 ls.ownBlock) (a8 : ls'.ownBlock = ls.ownBlock ∨ ls'.ownBlock = some (w7.alloc (.cells #[s] 27)).heap.size) :
    Hist w vs' ls' (hist ++ [(p, s, l)]) w8 ∧ Tree (KD w vs' ls') w8 p l ∧ SlV (KD w vs' ls') w8 s (ints l) ∧ w8.heap[w.heap.size]? = W.heap[w.heap.size]? ∧ Below w.heap.size w w8 := by
  have hs7 : W.heap.size + 1 ≤ w7.heap.size := by have := g7.size; rw [World.size_alloc] at this; exact this
  have hs8 : w7.heap.size + 1 ≤ w8.heap.size := by have := g8.size; rw [World.size_alloc] at this; exact this
  have hne7 : ∀ b, b < W.heap.size → some b ≠ vs.ownBlock → some b ≠ vs'.ownBlock := fun b hb hn e => by
    rcases a7 with a | a
    · exact hn (e.trans a)
    · rw [a, World.size_alloc] at e; injection e with e; omega
  have hne8 : ∀ b, b < W.heap.size → some b ≠ ls.ownBlock → some b ≠ ls'.ownBlock := fun b hb hn e => by
    rcases a8 with a | a
    · exact hn (e.trans a)
    · rw [a, World.size_alloc] at e; injection e with e; omega
  have hkeep : ∀ b, b < W.heap.size → some b ≠ vs.ownBlock → some b ≠ ls.ownBlock → w8.heap[b]? = W.heap[b]? := fun b hb h1 h2 => by
    refine (g8.block b (by rw [World.size_alloc]; omega) h2).trans ((Below.heap_alloc w7 _ b (by omega)).trans ?_)
    exact (g7.block b (by rw [World.size_alloc]; omega) h1).trans (Below.heap_alloc W _ b hb)
  have kv : ∀ {x : Option Addr} {y : List Int}, Tree (KD w vs ls) W x y → Tree (KD w vs' ls') w8 x y := fun h =>
    h.bound.keep (fun b h _ => ⟨h.1.1, hne7 b h.2 h.1.2.1, hne8 b h.2 h.1.2.2⟩) fun b h _ => hkeep b h.2 h.1.2.1 h.1.2.2
  have ks : ∀ {x : Value} {y : List Value}, SlV (KD w vs ls) W x y → SlV (KD w vs' ls') w8 x y := fun h =>
    (h.bound.keep fun b h _ => hkeep b h.2 h.1.2.1 h.1.2.2).mono fun b h => ⟨h.1.1, hne7 b h.2 h.1.2.1, hne8 b h.2 h.1.2.2⟩
  obtain ⟨hv, hls, hall, hg1, hg2⟩ := H
  have o7' : w8.ownsRow w.heap.size RT 1 vs' (hist.length + 1) ((hist.map fun h => Value.pointer h.1) ++ [.pointer p]) := by
    refine (o7.alloc _).kept g8 ?_
    cases hl : vs'.ownBlock with
    | none => exact .inl rfl
    | some k =>
      refine .inr fun e => ?_
      obtain ⟨c1, h1⟩ := own_typed o7 k hl
      have hklt : k < W.heap.size := own_lt hls k e.symm
      obtain ⟨c2, h2⟩ := own_typed hls k e.symm
      by_cases hkv : some k = vs.ownBlock
      · obtain ⟨c3, h3⟩ := own_typed hv k hkv.symm
        rw [h2] at h3
        injection h3 with h3
        injection h3 with _ h3
        exact absurd h3 (by decide)
      · have := (g7.block k (by rw [World.size_alloc]; omega) hkv).trans (Below.heap_alloc W _ k hklt)
        rw [h1, h2] at this
        injection this with this
        injection this with _ this
        exact absurd this (by decide)
  refine ⟨⟨?_, ?_, ?_, hne7 _ hwg hg1, hne8 _ hwg hg2⟩, kv hV, ks hS, hkeep _ hwg hg1 hg2, ?_⟩
  · rw [List.length_append, List.map_append]; exact o7'
  · rw [List.length_append, List.map_append]; exact o8
  · intro h hh
    rcases List.mem_append.1 hh with hh | hh
    · obtain ⟨h1, h2, h3⟩ := hall h hh
      exact ⟨kv h1, ks h2, h3⟩
    · obtain rfl := List.mem_singleton.1 hh
      exact ⟨kv hV, ks hS, hl⟩
  · have h1 : Below w.heap.size w w7 := (hB.alloc hB.size _).grown g7 (by rw [World.size_alloc]; have := hB.size; omega) fun k hk => own_base hv k hk
    exact (h1.alloc h1.size _).grown g8 (by rw [World.size_alloc]; have := h1.size; omega) fun k hk => own_base hls k hk

theorem Hist.below {w : World} {vs ls : Value} {hist : List Past} {W W' : World} (H : Hist w vs ls hist W) (hb : Below W.heap.size W W') : Hist w vs ls hist W' := by
  obtain ⟨hv, hls, hall, h1, h2⟩ := H
  exact ⟨own_move hv fun k hk => hb.block k (own_lt hv k hk), own_move hls fun k hk => hb.block k (own_lt hls k hk), fun h hh => ⟨(hall h hh).1.below hb, (hall h hh).2.1.below hb, (hall h hh).2.2⟩, h1, h2⟩

theorem Hist.far {w : World} {vs ls : Value} {hist : List Past} {W : World} (H : Hist w vs ls hist W) (u : Value) : Hist w vs ls hist (W.setCell ⟨w.heap.size, 0, none⟩ u) := by
  obtain ⟨hv, hls, hall, h1, h2⟩ := H
  have hn : ¬ KD w vs ls w.heap.size := fun h => absurd h.1 (by omega)
  exact ⟨own_move hv fun k hk => Below.heap_setCell W ⟨w.heap.size, 0, none⟩ u k (fun e => h1 (by rw [hk, e])), own_move hls fun k hk => Below.heap_setCell W ⟨w.heap.size, 0, none⟩ u k (fun e => h2 (by rw [hk, e])), fun h hh => ⟨tree_far (hall h hh).1 _ _ u hn, slv_far (hall h hh).2.1 _ _ u hn, (hall h hh).2.2⟩, h1, h2⟩

theorem Hist.fresh {w : World} {vs ls : Value} {hist : List Past} {W : World} (H : Hist w vs ls hist W) (hg : w.heap.size < W.heap.size) {b : Nat} (hb : W.heap.size ≤ b) : KD w vs ls b := by
  refine ⟨by omega, fun e => ?_, fun e => ?_⟩
  · have := own_lt H.1 b e.symm; omega
  · have := own_lt H.2.1 b e.symm; omega

/-- behind an operation and the store of what came of it -/
theorem one_stored {w : World} {vs ls : Value} {hist : List Past} {wr : World} (H : Hist w vs ls hist wr) (hB : Below w.heap.size w wr) {W : World} (hW : wr.heap.size ≤ W.heap.size) {x0 : Value} (hb0 : wr.heap[w.heap.size]? = some (.cells #[x0] RT (0, 0)))
    {w5 : World} (hb : Below wr.heap.size wr w5) {p : Option Addr} {s : Value} {l : List Int} (hV : Tree (New (KD w vs ls) W) w5 p l) (hS : SlV (New (KD w vs ls) W) w5 s (ints l)) :
    Hist w vs ls hist (w5.setCell ⟨w.heap.size, 0, none⟩ (.pointer p)) ∧ Tree (KD w vs ls) (w5.setCell ⟨w.heap.size, 0, none⟩ (.pointer p)) p l ∧ SlV (KD w vs ls) (w5.setCell ⟨w.heap.size, 0, none⟩ (.pointer p)) s (ints l) ∧
      (w5.setCell ⟨w.heap.size, 0, none⟩ (.pointer p)).heap[w.heap.size]? = some (.cells #[.pointer p] RT (0, 0)) ∧ Below w.heap.size w (w5.setCell ⟨w.heap.size, 0, none⟩ (.pointer p)) := by
  have hg := blk_lt hb0
  have hk : ∀ b, New (KD w vs ls) W b → KD w vs ls b := fun b h => h.elim id fun h => H.fresh hg (Nat.le_trans hW h)
  have hn : ¬ KD w vs ls w.heap.size := fun h => absurd h.1 (by omega)
  exact ⟨(H.below hb).far _, tree_far (hV.mono hk) _ _ _ hn, slv_far (hS.mono hk) _ _ _ hn, blk_put (blk_below hb0 hb) 0 _ rfl, (below_trans hB hb).setCell (Nat.le_refl _) _⟩

/-- what holds at each round's head -/
def AllI (w : World) (T k : Nat) (v6 v7 v8 v20 : Value) (wr : World) : Prop :=
  ∃ (j : Nat) (hist : List Past) (l : List Int) (p : Option Addr), v20 = .int .i64 (j : Int) ∧ j + k = T ∧ 1 ≤ hist.length ∧ hist.length ≤ j + 1 ∧ l.length ≤ 3000 + j ∧
    wr.heap[w.heap.size]? = some (.cells #[.pointer p] RT (0, 0)) ∧ Tree (KD w v7 v8) wr p l ∧ SlV (KD w v7 v8) wr v6 (ints l) ∧ Hist w v7 v8 hist wr ∧ Below w.heap.size w wr

theorem row_form {w : World} {base size : Nat} {e : TypeId} {v : Value} {n : Nat} {xs : List Value} (h : w.ownsRow base e size v n xs) (hn : 0 < n) : ∃ g cap, v = .slice (some ⟨g, 0, none⟩) n cap ∧ base ≤ g ∧ ∀ j u, xs[j]? = some u → w.cell? ⟨g, j, none⟩ = some u := by
  have hc : ∀ {g : Nat}, v.ownBlock = some g → ∀ j u, xs[j]? = some u → w.cell? ((⟨g, 0, none⟩ : Addr).add j) = some u := fun hg => h.cells hg
  have hb := fun g (hg : v.ownBlock = some g) => own_base h g hg
  rcases h.2 with ⟨_, h0⟩ | ⟨g, cap, cur, rfl, _⟩
  · omega
  · exact ⟨g, cap, rfl, hb g (by simp [Value.ownBlock]), fun j u hu => by have := hc (g := g) (by simp [Value.ownBlock]) j u hu; rwa [add_head] at this⟩

theorem all_start (w : World) :
    AllI w 0 0 (.slice (some ⟨w.heap.size + 1, 0, none⟩) 0 0) (.slice (some ⟨w.heap.size + 1 + 1, 0, none⟩) 1 1) (.slice (some ⟨w.heap.size + 1 + 1 + 1, 0, none⟩) 1 1) (.int .i64 0)
      ((((w.alloc (.cells #[.pointer none] RT)).alloc (.cells #[] 3)).alloc (.cells #[.pointer none] RT)).alloc (.cells #[.slice (some ⟨w.heap.size + 1, 0, none⟩) 0 0] 27)) := by
  have hnil : ∀ (K : Nat → Prop) (W : World), SlV K W (.slice (some ⟨w.heap.size + 1, 0, none⟩) 0 0) (ints []) := fun K W => ⟨_, _, rfl, by simp, by simp [maxLen], fun h => absurd h (by simp), fun u hu => by simp at hu⟩
  refine ⟨0, [(none, .slice (some ⟨w.heap.size + 1, 0, none⟩) 0 0, [])], [], none, rfl, rfl, by simp, by simp, by simp, blk_alloc (blk_alloc (blk_alloc (blk_new w _) _) _) _, Or.inl ⟨rfl, rfl⟩, hnil _ _, ⟨?_, ?_, ?_, ?_, ?_⟩, ?_⟩
  · exact ⟨rfl, .inr ⟨w.heap.size + 1 + 1, 1, #[.pointer none], rfl, by omega, blk_alloc (heap_k2 w _ _ _) _, by simp, by simp [maxLen], rfl, rfl⟩⟩
  · exact ⟨by simp, .inr ⟨w.heap.size + 1 + 1 + 1, 1, #[.slice (some ⟨w.heap.size + 1, 0, none⟩) 0 0], rfl, by omega, heap_k3 w _ _ _ _, by simp, by simp [maxLen], rfl, rfl⟩⟩
  · intro h hh
    obtain rfl := List.mem_singleton.1 hh
    exact ⟨Or.inl ⟨rfl, rfl⟩, hnil _ _, by simp⟩
  · simp [Value.ownBlock]; omega
  · simp [Value.ownBlock]; omega
  · go_grown

theorem info_rope : (Try.prog.info? RT).map (fun i => (i.zero, i.size, i.bytes)) = some (some (.agg #[.pointer none]), 1, 8) := by kernel_rfl
theorem info_sl : (Try.prog.info? 27).map (fun i => (i.zero, i.size, i.bytes)) = some (some (.slice none 0 0), 1, 24) := by kernel_rfl

/-- what all gives -/
def AllV (w : World) (u : Value) (w' : World) : Prop := ∃ (vs ls : Value) (hist : List Past), u = .tuple #[vs, ls, .bool true] ∧ 1 ≤ hist.length ∧ hist.length ≤ 41 ∧ Hist w vs ls hist w'
end Go.Proofs.Ytcjpdjecgeenfaa.Ro
end

section
namespace Go.Proofs.Ytcjpdjecgeenfaa.Ro
open Go Go.RowKit Go.Proofs.Ytcjpdjecgeenfaa.Mem Go.Proofs.YtcjpdjecgeenfaaW.PrintWords Go.Proofs.YtcjpdjecgeenfaaW.PrintMore Go.Proofs.Ytcjpdjecgeenfaa.PRopeDoes
attribute [local go_sem] max2_int max_two

set_option maxRecDepth 100000 in
set_option maxHeartbeats 16000000 in
/-- ALL ROPES THAT COME OF A SCRIPT. -/
theorem all_c (v : Value) (os : List S59) (w : World) (hO : OpsV w v os) (hl : os.length ≤ 40) (hN : ∀ (q : Nat) (o : S59), os[q]? = some o → o.f5 ≤ 1000) :
    Calls Try.prog 15 #[v] w (Ret (AllV w) w) := by
  obtain ⟨As, cs, rfl, -⟩ := id hO
  obtain ⟨iv, hiv, hv0, hv1, hv2⟩ := info_parts info_rope
  obtain ⟨is, his, hs0, hs1, hs2⟩ := info_parts info_sl
  have HIV := Lib.hid (And.intro hiv (And.intro hv0 (And.intro hv1 hv2))); clear hiv hv0 hv1 hv2
  have HIS := Lib.hid (And.intro his (And.intro hs0 (And.intro hs1 hs2))); clear his hs0 hs1 hs2
  have HO := Lib.hid hO; clear hO
  have HN := Lib.hid hN; clear hN
  go_enter Try.func15, Try.ntmps15
  go_wp2_with fail
  have hOl : (os.length : Int) ≤ 40 := by omega
  go_loopg [6, 7, 8, 20] os.length (fun k v6 v7 v8 v20 wr => Aside (AllI w os.length k v6 v7 v8 v20 wr))
  case atStart =>
    show AllI _ _ _ _ _ _ _ _
    obtain ⟨j, hist, l, p, h1, h2, h3⟩ := all_start w
    exact ⟨j, hist, l, p, h1, by omega, h3⟩
  case round =>
    obtain ⟨j, hist, l, p, rfl, hj, hh1, hhj, hll, BK, hT, hS, hH, hB⟩ := hrel.out
    clear hrel
    obtain ⟨Ar, nr, cr, rfl⟩ := hS.form
    obtain rfl : nr = l.length := by have := hS.len; simpa using this
    obtain ⟨gv, cv, rfl, hgv, hcv⟩ := row_form hH.1 (by omega)
    obtain ⟨gl, cl, rfl, hgl, hcl⟩ := row_form hH.2.1 (by omega)
    have HBK := Lib.hid BK; clear BK
    have HT := Lib.hid hT; clear hT
    have HS := Lib.hid hS; clear hS
    have HH := Lib.hid hH; clear hH
    have HCV := Lib.hid hcv; clear hcv
    have HCL := Lib.hid hcl; clear hcl
    cases gk with
    | zero =>
      obtain rfl : j = os.length := by omega
      clear hj
      go_wp2_with fail
      go_returns
      exact ⟨_, rfl, ⟨_, _, hist, rfl, hh1, by omega, HH.out⟩, hB⟩
    | succ k =>
      have hjl : j < os.length := by omega
      have hjI : (j : Int) < (os.length : Int) := by omega
      obtain ⟨ad, o, rfl, ho, c0, c1, c2, c3, c4, c5⟩ := HO.out.at j hjl
      have c0 := cell_below c0 hB
      have c1 := cell_below c1 hB
      have c2 := cell_below c2 hB
      have c3 := cell_below c3 hB
      have c4 := cell_below c4 hB
      have c5 := cell_below c5 hB
      have hoN := HN.out j o ho
      obtain ⟨hwI, hwJ⟩ := HO.out.wf o (List.mem_of_getElem? ho)
      have HWI := Lib.hid hwI; have HWJ := Lib.hid hwJ; clear hwI hwJ
      clear ho
      obtain ⟨D, I, J, X, Z, N⟩ := o
      have HNN := Lib.hid (show N ≤ 1000 from hoN); clear hoN
      have HWI := Lib.hid (show Wf I from HWI.out)
      have HWJ := Lib.hid (show Wf J from HWJ.out)
      obtain ⟨m, hm⟩ : ∃ m : Nat, (if Z < 0 then (0 : Int) else Z) = (m : Int) := by
        split
        · exact ⟨0, rfl⟩
        · exact ⟨Z.toNat, by omega⟩
      have hj40 : hist.length ≤ 41 := by omega
      have hjb : j < 40 := by omega
      have hhn : (hist.length : Int) ≠ 0 := by omega
      have hhn' : ((hist.length : Int) == 0) = false := beq_false_of_ne hhn
      obtain ⟨i, hi⟩ : ∃ i : Nat, i = m % hist.length := ⟨_, rfl⟩
      have hil : i < hist.length := by rw [hi]; exact Nat.mod_lt _ (by omega)
      have htm : Int.tmod (m : Int) (hist.length : Int) = (i : Int) := by rw [hi, Int.tmod_eq_emod_of_nonneg (by omega)]; rfl
      have HHL := Lib.hid (And.intro hh1 hhj)
      obtain ⟨⟨pk, sk, lk⟩, hx⟩ : ∃ x, hist[i]? = some x := ⟨_, List.getElem?_eq_getElem hil⟩
      obtain ⟨htk, hsk, hlk⟩ := HH.out.2.2.1 _ (List.mem_of_getElem? hx)
      have htk : Tree _ wr pk lk := htk
      have hsk : SlV _ wr sk (ints lk) := hsk
      have HKL := Lib.hid (show lk.length ≤ 4000 from hlk); clear hlk
      obtain ⟨Ak, nk, ck, rfl⟩ := hsk.form
      obtain rfl : nk = lk.length := by have := hsk.len; simpa using this
      have CV := Lib.hid (HCV.out i (.pointer pk) (by rw [List.getElem?_map, hx]; rfl))
      have CL := Lib.hid (HCL.out i (.slice Ak lk.length ck) (by rw [List.getElem?_map, hx]; rfl))
      have HTK := Lib.hid htk; clear htk
      have HSK := Lib.hid hsk; clear hsk hx hi
      obtain ⟨k0, f0⟩ := box1 HBK.out
      have g0 := fun o : Obj => cell_below k0 ((Below.refl wr.heap.size wr).alloc (Nat.le_refl _) o)
      have gcl := fun o : Obj => cell_below CL.out ((Below.refl wr.heap.size wr).alloc (Nat.le_refl _) o)
      have hiI : (i : Int) < (hist.length : Int) := by omega
      have hi0 : (0 : Int) ≤ (i : Int) := by omega
      by_cases h4 : D = 4
      · subst h4
        by_cases hsum : 3000 < l.length + lk.length
        · have hsumI : (3000 : Int) < (l.length : Int) + (lk.length : Int) := by omega
          have hsb : (l.length : Int) + (lk.length : Int) ≤ 10000 := by have := HKL.out; omega
          go_wp2_with fail
          go_roundg k
          case measure => omega
          case rel =>
            show AllI _ _ _ _ _ _ _ _
            have hba := (Below.refl wr.heap.size wr).alloc (Nat.le_refl _) (.cells #[.int .i64 4, .int .i64 I, .int .i64 J, .int .i64 X, .int .i64 Z, .int .i64 N] 59)
            exact ⟨j + 1, hist, l, p, by first | rfl | (push_cast; rfl), by omega, hh1, by omega, by omega, blk_below HBK.out hba, HT.out.below hba, HS.out.below hba, HH.out.below hba, below_trans hB hba⟩
        · have hsumI : ¬ (3000 : Int) < (l.length : Int) + (lk.length : Int) := by omega
          have hsb : (l.length : Int) + (lk.length : Int) ≤ 10000 := by omega
          have HLJ := Lib.hid (show (lk ++ l).length ≤ 3000 by rw [List.length_append]; omega)
          have hlb : l.length ≤ 3040 := by omega
          have hlkb : lk.length ≤ 4000 := by have := HKL.out; omega
          have HCC := Lib.hid (fun V (hw : Below wr.heap.size wr V) => concat_c _ pk p lk l V (HTK.out.below hw) (HT.out.below hw) (by have := HLJ.out; omega))
          have HJJ := Lib.hid (fun V (hw : Below wr.heap.size wr V) => rjoin_c _ _ (.slice Ak lk.length ck) (.slice Ar l.length cr) lk l (by omega) (by omega) V (HSK.out.below hw) (HS.out.below hw))
          go_wp2_with fail
          generalize hWA : wr.alloc (.cells #[.int .i64 4, .int .i64 I, .int .i64 J, .int .i64 X, .int .i64 Z, .int .i64 N] 59) = WA
          have hBA : Below wr.heap.size wr WA := by rw [← hWA]; exact (Below.refl _ _).alloc (Nat.le_refl _) _
          clear hWA
          have BWA := Lib.hid hBA; clear hBA
          have HW := Lib.hid (Below.drew (Below.refl WA.heap.size WA))
          have HBX := Lib.hid (blk_below (blk_below HBK.out BWA.out) HW.out)
          have CVX := Lib.hid (cell_below (cell_below CV.out BWA.out) HW.out)
          have CLX := Lib.hid (cell_below (cell_below CL.out BWA.out) HW.out)
          clear g0 gcl k0 f0
          obtain ⟨kx, fx⟩ := box1 HBX.out
          have kv := CVX.out
          have kl := CLX.out
          go_region_with (first
            | (go_at_call 23; (with_reducible refine (HCC.out _ (below_trans BWA.out HW.out)).mono ?_); rintro e wx ⟨v, rfl, hr, hbx⟩; obtain ⟨p6, rfl, hT⟩ := hr; have HRx := Lib.hid (hT.mono (K' := New (KD w (.slice (some ⟨gv, 0, none⟩) hist.length cv) (.slice (some ⟨gl, 0, none⟩) hist.length cl)) WA) fun b h => New.of HW.out.size h); clear hT HCC; (try replace HRx := Lib.hid (HRx.out.below hbx)); (try replace HOx := Lib.hid (HOx.out.below hbx)); replace HBX := Lib.hid (blk_below HBX.out hbx); replace CVX := Lib.hid (cell_below CVX.out hbx); replace CLX := Lib.hid (cell_below CLX.out hbx); have HW := Lib.hid (below_trans HW.out hbx); clear kx fx kv kl; obtain ⟨kx, fx⟩ := box1 HBX.out; have kv := CVX.out; have kl := CLX.out; clear hbx)
            | (go_at_call 32; (with_reducible refine (HJJ.out _ (below_trans BWA.out HW.out)).mono ?_); rintro e wx ⟨v, rfl, hO, hbx⟩; obtain ⟨A6, n6, c6, rfl⟩ := hO.slv.form; have HOx := Lib.hid (hO.slv.mono (K' := New (KD w (.slice (some ⟨gv, 0, none⟩) hist.length cv) (.slice (some ⟨gl, 0, none⟩) hist.length cl)) WA) fun b h => New.fresh (Nat.le_trans HW.out.size h)); clear hO HJJ; (try replace HRx := Lib.hid (HRx.out.below hbx)); (try replace HOx := Lib.hid (HOx.out.below hbx)); replace HBX := Lib.hid (blk_below HBX.out hbx); replace CVX := Lib.hid (cell_below CVX.out hbx); replace CLX := Lib.hid (cell_below CLX.out hbx); have HW := Lib.hid (below_trans HW.out hbx); clear kx fx kv kl; obtain ⟨kx, fx⟩ := box1 HBX.out; have kv := CVX.out; have kl := CLX.out; clear hbx)
            | fail)
          all_goals
            have hb5' : Below wr.heap.size wr wx := below_trans BWA.out HW.out
            obtain ⟨hH6, hT6, hS6, hB6, hBw6⟩ := one_stored HH.out hB BWA.out.size HBK.out hb5' HRx.out HOx.out
            generalize hW6 : wx.setCell ⟨w.heap.size, 0, none⟩ (.pointer p6) = w6
            rw [hW6] at hH6 hT6 hS6 hB6 hBw6
            clear hW6 HRx HOx HBX CVX CLX HW kx fx kv kl hb5' HBK HT HS HTK HSK HH hB
            have HH6 := Lib.hid hH6; clear hH6
            have HT6 := Lib.hid hT6; clear hT6
            have HS6 := Lib.hid hS6; clear hS6
            have HB6 := Lib.hid hB6; clear hB6
            have HBW6 := Lib.hid hBw6; clear hBw6
            have HLEN := Lib.hid (show (lk ++ l).length ≤ 3000 + (j + 1) by have := HLJ.out; omega)
            obtain ⟨k0, f0⟩ := box1 HB6.out
            clear k0 f0
            obtain ⟨k0, -⟩ := box1 HB6.out
            go_wp2_with (first
              | (at_builtin; refine wpList_append_own_at _ rfl (.tmp 87) (.tmp 89) 37 rfl w.heap.size RT iv _ 1 8 Try.underlying37 HIV.out.1 HIV.out.2.1 HIV.out.2.2.1 HIV.out.2.2.2 rfl (by decide) _ hist.length _ rfl (HH6.out.1.alloc _) ⟨w6.heap.size, 0, none⟩ 1 1 [.pointer p6] rfl rfl ?a1 ?a2 ?a3 ?a4 ?a5 ?_; (case a1 => exact World.news_of_block (cs := #[.pointer p6]) (heap_alloc_new w6 _)); (case a2 => simp [Value.oneCell']); (case a3 => unfold maxLen; omega); (case a4 => omega); (case a5 => have := HBW6.out.size; rw [World.size_alloc]; omega); intro v9 w9 hown9 hgrow9 _ hat9; have HO9 := Lib.hid hown9; have HG9 := Lib.hid hgrow9; have HA9 := Lib.hid hat9; clear hown9 hgrow9 hat9)
              | (at_builtin; refine wpList_append_own_at _ rfl (.tmp 91) (.tmp 93) 38 rfl w.heap.size 27 is _ 1 24 Try.underlying38 HIS.out.1 HIS.out.2.1 HIS.out.2.2.1 HIS.out.2.2.2 rfl (by decide) _ hist.length _ rfl (((HH6.out.2.1.alloc _).kept HG9.out HH6.out.apart).alloc _) ⟨w9.heap.size, 0, none⟩ 1 1 [.slice A6 n6 c6] rfl rfl ?b1 ?b2 ?b3 ?b4 ?b5 ?_; (case b1 => exact World.news_of_block (cs := #[.slice A6 n6 c6]) (heap_alloc_new w9 _)); (case b2 => simp [Value.oneCell']); (case b3 => unfold maxLen; omega); (case b4 => omega); (case b5 => have h1 := HBW6.out.size; have h2 := HG9.out.size; rw [World.size_alloc] at h2 ⊢; omega); intro v10 w10 hown10 hgrow10 _ hat10; have HP := Lib.hid (hist_push HH6.out HBW6.out (blk_lt HB6.out) HT6.out HS6.out (by have := HLEN.out; omega) HO9.out HG9.out HA9.out hown10 hgrow10 hat10); clear hown10 hgrow10 hat10 HO9 HG9 HA9))
            go_roundg k
            case measure => omega
            case rel =>
              show AllI _ _ _ _ _ _ _ _
              obtain ⟨p1, p2, p3, p4, p5⟩ := HP.out
              exact ⟨j + 1, _, _, p6, by first | rfl | (push_cast; rfl), by omega, by rw [List.length_append]; simp, by rw [List.length_append]; have := HHL.out; simp; omega, by have := HLEN.out; omega, p4.trans HB6.out, p2, p3, p1, p5⟩
      · by_cases h5 : D = 5
        · subst h5
          by_cases hsum : 3000 < l.length + lk.length
          · have hsumI : (3000 : Int) < (l.length : Int) + (lk.length : Int) := by omega
            have hsb : (l.length : Int) + (lk.length : Int) ≤ 10000 := by have := HKL.out; omega
            go_wp2_with fail
            go_roundg k
            case measure => omega
            case rel =>
              show AllI _ _ _ _ _ _ _ _
              have hba := (Below.refl wr.heap.size wr).alloc (Nat.le_refl _) (.cells #[.int .i64 5, .int .i64 I, .int .i64 J, .int .i64 X, .int .i64 Z, .int .i64 N] 59)
              exact ⟨j + 1, hist, l, p, by first | rfl | (push_cast; rfl), by omega, hh1, by omega, by omega, blk_below HBK.out hba, HT.out.below hba, HS.out.below hba, HH.out.below hba, below_trans hB hba⟩
          · have hsumI : ¬ (3000 : Int) < (l.length : Int) + (lk.length : Int) := by omega
            have hsb : (l.length : Int) + (lk.length : Int) ≤ 10000 := by omega
            have HLJ := Lib.hid (show (l ++ lk).length ≤ 3000 by rw [List.length_append]; omega)
            have hlb : l.length ≤ 3040 := by omega
            have hlkb : lk.length ≤ 4000 := by have := HKL.out; omega
            have HCC := Lib.hid (fun V (hw : Below wr.heap.size wr V) => concat_c _ p pk l lk V (HT.out.below hw) (HTK.out.below hw) (by have := HLJ.out; omega))
            have HJJ := Lib.hid (fun V (hw : Below wr.heap.size wr V) => rjoin_c _ _ (.slice Ar l.length cr) (.slice Ak lk.length ck) l lk (by omega) (by omega) V (HS.out.below hw) (HSK.out.below hw))
            go_wp2_with fail
            generalize hWA : wr.alloc (.cells #[.int .i64 5, .int .i64 I, .int .i64 J, .int .i64 X, .int .i64 Z, .int .i64 N] 59) = WA
            have hBA : Below wr.heap.size wr WA := by rw [← hWA]; exact (Below.refl _ _).alloc (Nat.le_refl _) _
            clear hWA
            have BWA := Lib.hid hBA; clear hBA
            have HW := Lib.hid (Below.drew (Below.refl WA.heap.size WA))
            have HBX := Lib.hid (blk_below (blk_below HBK.out BWA.out) HW.out)
            have CVX := Lib.hid (cell_below (cell_below CV.out BWA.out) HW.out)
            have CLX := Lib.hid (cell_below (cell_below CL.out BWA.out) HW.out)
            clear g0 gcl k0 f0
            obtain ⟨kx, fx⟩ := box1 HBX.out
            have kv := CVX.out
            have kl := CLX.out
            go_region_with (first
              | (go_at_call 23; (with_reducible refine (HCC.out _ (below_trans BWA.out HW.out)).mono ?_); rintro e wx ⟨v, rfl, hr, hbx⟩; obtain ⟨p6, rfl, hT⟩ := hr; have HRx := Lib.hid (hT.mono (K' := New (KD w (.slice (some ⟨gv, 0, none⟩) hist.length cv) (.slice (some ⟨gl, 0, none⟩) hist.length cl)) WA) fun b h => New.of HW.out.size h); clear hT HCC; (try replace HRx := Lib.hid (HRx.out.below hbx)); (try replace HOx := Lib.hid (HOx.out.below hbx)); replace HBX := Lib.hid (blk_below HBX.out hbx); replace CVX := Lib.hid (cell_below CVX.out hbx); replace CLX := Lib.hid (cell_below CLX.out hbx); have HW := Lib.hid (below_trans HW.out hbx); clear kx fx kv kl; obtain ⟨kx, fx⟩ := box1 HBX.out; have kv := CVX.out; have kl := CLX.out; clear hbx)
              | (go_at_call 32; (with_reducible refine (HJJ.out _ (below_trans BWA.out HW.out)).mono ?_); rintro e wx ⟨v, rfl, hO, hbx⟩; obtain ⟨A6, n6, c6, rfl⟩ := hO.slv.form; have HOx := Lib.hid (hO.slv.mono (K' := New (KD w (.slice (some ⟨gv, 0, none⟩) hist.length cv) (.slice (some ⟨gl, 0, none⟩) hist.length cl)) WA) fun b h => New.fresh (Nat.le_trans HW.out.size h)); clear hO HJJ; (try replace HRx := Lib.hid (HRx.out.below hbx)); (try replace HOx := Lib.hid (HOx.out.below hbx)); replace HBX := Lib.hid (blk_below HBX.out hbx); replace CVX := Lib.hid (cell_below CVX.out hbx); replace CLX := Lib.hid (cell_below CLX.out hbx); have HW := Lib.hid (below_trans HW.out hbx); clear kx fx kv kl; obtain ⟨kx, fx⟩ := box1 HBX.out; have kv := CVX.out; have kl := CLX.out; clear hbx)
              | fail)
            all_goals
              have hb5' : Below wr.heap.size wr wx := below_trans BWA.out HW.out
              obtain ⟨hH6, hT6, hS6, hB6, hBw6⟩ := one_stored HH.out hB BWA.out.size HBK.out hb5' HRx.out HOx.out
              generalize hW6 : wx.setCell ⟨w.heap.size, 0, none⟩ (.pointer p6) = w6
              rw [hW6] at hH6 hT6 hS6 hB6 hBw6
              clear hW6 HRx HOx HBX CVX CLX HW kx fx kv kl hb5' HBK HT HS HTK HSK HH hB
              have HH6 := Lib.hid hH6; clear hH6
              have HT6 := Lib.hid hT6; clear hT6
              have HS6 := Lib.hid hS6; clear hS6
              have HB6 := Lib.hid hB6; clear hB6
              have HBW6 := Lib.hid hBw6; clear hBw6
              have HLEN := Lib.hid (show (l ++ lk).length ≤ 3000 + (j + 1) by have := HLJ.out; omega)
              obtain ⟨k0, f0⟩ := box1 HB6.out
              clear k0 f0
              obtain ⟨k0, -⟩ := box1 HB6.out
              go_wp2_with (first
                | (at_builtin; refine wpList_append_own_at _ rfl (.tmp 87) (.tmp 89) 37 rfl w.heap.size RT iv _ 1 8 Try.underlying37 HIV.out.1 HIV.out.2.1 HIV.out.2.2.1 HIV.out.2.2.2 rfl (by decide) _ hist.length _ rfl (HH6.out.1.alloc _) ⟨w6.heap.size, 0, none⟩ 1 1 [.pointer p6] rfl rfl ?a1 ?a2 ?a3 ?a4 ?a5 ?_; (case a1 => exact World.news_of_block (cs := #[.pointer p6]) (heap_alloc_new w6 _)); (case a2 => simp [Value.oneCell']); (case a3 => unfold maxLen; omega); (case a4 => omega); (case a5 => have := HBW6.out.size; rw [World.size_alloc]; omega); intro v9 w9 hown9 hgrow9 _ hat9; have HO9 := Lib.hid hown9; have HG9 := Lib.hid hgrow9; have HA9 := Lib.hid hat9; clear hown9 hgrow9 hat9)
                | (at_builtin; refine wpList_append_own_at _ rfl (.tmp 91) (.tmp 93) 38 rfl w.heap.size 27 is _ 1 24 Try.underlying38 HIS.out.1 HIS.out.2.1 HIS.out.2.2.1 HIS.out.2.2.2 rfl (by decide) _ hist.length _ rfl (((HH6.out.2.1.alloc _).kept HG9.out HH6.out.apart).alloc _) ⟨w9.heap.size, 0, none⟩ 1 1 [.slice A6 n6 c6] rfl rfl ?b1 ?b2 ?b3 ?b4 ?b5 ?_; (case b1 => exact World.news_of_block (cs := #[.slice A6 n6 c6]) (heap_alloc_new w9 _)); (case b2 => simp [Value.oneCell']); (case b3 => unfold maxLen; omega); (case b4 => omega); (case b5 => have h1 := HBW6.out.size; have h2 := HG9.out.size; rw [World.size_alloc] at h2 ⊢; omega); intro v10 w10 hown10 hgrow10 _ hat10; have HP := Lib.hid (hist_push HH6.out HBW6.out (blk_lt HB6.out) HT6.out HS6.out (by have := HLEN.out; omega) HO9.out HG9.out HA9.out hown10 hgrow10 hat10); clear hown10 hgrow10 hat10 HO9 HG9 HA9))
              go_roundg k
              case measure => omega
              case rel =>
                show AllI _ _ _ _ _ _ _ _
                obtain ⟨p1, p2, p3, p4, p5⟩ := HP.out
                exact ⟨j + 1, _, _, p6, by first | rfl | (push_cast; rfl), by omega, by rw [List.length_append]; simp, by rw [List.length_append]; have := HHL.out; simp; omega, by have := HLEN.out; omega, p4.trans HB6.out, p2, p3, p1, p5⟩
        · have e4 : (D != 4) = true := by simp [h4]
          have e5 : (D != 5) = true := by simp [h5]
          have HD := Lib.hid (fun o : Obj => one_c _ _ _ l D I J X Z N (wr.alloc o) (HT.out.below ((Below.refl _ _).alloc (Nat.le_refl _) o)) (HS.out.below ((Below.refl _ _).alloc (Nat.le_refl _) o)) (by omega) HNN.out HWI.out HWJ.out)
          go_upto_region 17 with (go_at_call 31; ((with_reducible refine (HD.out _).mono ?_); rintro e w5 ⟨v, rfl, ⟨u, s, rfl, hR5, hS5⟩, hb5⟩; obtain ⟨p6, rfl, hT5⟩ := hR5; obtain ⟨A6, n6, c6, rfl⟩ := hS5.form; have HT5 := Lib.hid hT5; have HS5 := Lib.hid hS5; clear hT5 hS5; have hb5' : Below wr.heap.size wr w5 := below_trans ((Below.refl _ _).alloc (Nat.le_refl _) _) hb5; have B5 := blk_below HBK.out hb5'; clear k0 f0; obtain ⟨k0, f0⟩ := box1 B5; clear B5))
          obtain ⟨hH6, hT6, hS6, hB6, hBw6⟩ := one_stored HH.out hB (by rw [World.size_alloc]; omega) HBK.out hb5' HT5.out HS5.out
          generalize hW6 : w5.setCell ⟨w.heap.size, 0, none⟩ (.pointer p6) = w6
          rw [hW6] at hH6 hT6 hS6 hB6 hBw6
          clear hW6 HT5 HS5 HD hb5 hb5' g0 gcl c0 c1 c2 c3 c4 c5 HBK HT HS HTK HSK HH hB CV CL HCV HCL
          have HH6 := Lib.hid hH6; clear hH6
          have HT6 := Lib.hid hT6; clear hT6
          have HS6 := Lib.hid hS6; clear hS6
          have HB6 := Lib.hid hB6; clear hB6
          have HBW6 := Lib.hid hBw6; clear hBw6
          have HLEN := Lib.hid (show (oneL l D I J X N).length ≤ 3000 + (j + 1) from oneL_len l D I J X N HNN.out (by omega) (3000 + j) (by omega) hll)
          clear k0 f0
          obtain ⟨k0, -⟩ := box1 HB6.out
          go_wp2_with (first
            | (at_builtin; refine wpList_append_own_at _ rfl (.tmp 87) (.tmp 89) 37 rfl w.heap.size RT iv _ 1 8 Try.underlying37 HIV.out.1 HIV.out.2.1 HIV.out.2.2.1 HIV.out.2.2.2 rfl (by decide) _ hist.length _ rfl (HH6.out.1.alloc _) ⟨w6.heap.size, 0, none⟩ 1 1 [.pointer p6] rfl rfl ?a1 ?a2 ?a3 ?a4 ?a5 ?_; (case a1 => exact World.news_of_block (cs := #[.pointer p6]) (heap_alloc_new w6 _)); (case a2 => simp [Value.oneCell']); (case a3 => unfold maxLen; omega); (case a4 => omega); (case a5 => have := HBW6.out.size; rw [World.size_alloc]; omega); intro v9 w9 hown9 hgrow9 _ hat9; have HO9 := Lib.hid hown9; have HG9 := Lib.hid hgrow9; have HA9 := Lib.hid hat9; clear hown9 hgrow9 hat9)
            | (at_builtin; refine wpList_append_own_at _ rfl (.tmp 91) (.tmp 93) 38 rfl w.heap.size 27 is _ 1 24 Try.underlying38 HIS.out.1 HIS.out.2.1 HIS.out.2.2.1 HIS.out.2.2.2 rfl (by decide) _ hist.length _ rfl (((HH6.out.2.1.alloc _).kept HG9.out HH6.out.apart).alloc _) ⟨w9.heap.size, 0, none⟩ 1 1 [.slice A6 n6 c6] rfl rfl ?b1 ?b2 ?b3 ?b4 ?b5 ?_; (case b1 => exact World.news_of_block (cs := #[.slice A6 n6 c6]) (heap_alloc_new w9 _)); (case b2 => simp [Value.oneCell']); (case b3 => unfold maxLen; omega); (case b4 => omega); (case b5 => have h1 := HBW6.out.size; have h2 := HG9.out.size; rw [World.size_alloc] at h2 ⊢; omega); intro v10 w10 hown10 hgrow10 _ hat10; have HP := Lib.hid (hist_push HH6.out HBW6.out (blk_lt HB6.out) HT6.out HS6.out (by have := HLEN.out; omega) HO9.out HG9.out HA9.out hown10 hgrow10 hat10); clear hown10 hgrow10 hat10 HO9 HG9 HA9))
          go_roundg k
          case measure => omega
          case rel =>
            show AllI _ _ _ _ _ _ _ _
            obtain ⟨p1, p2, p3, p4, p5⟩ := HP.out
            exact ⟨j + 1, _, _, p6, by first | rfl | (push_cast; rfl), by omega, by rw [List.length_append]; simp, by rw [List.length_append]; have := HHL.out; simp; omega, by have := HLEN.out; omega, p4.trans HB6.out, p2, p3, p1, p5⟩
end Go.Proofs.Ytcjpdjecgeenfaa.Ro
end
