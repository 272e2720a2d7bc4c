/- Laws of the maps' code and of the words it uses, gathered out of the printed and own texts; no conditions. -/
import Derived.Test.YtnegblckbomgdaaDoorHs3
import Derived.Sort.Grow
import Derived.Sort.Statements
import Derived.Laws.IdiomStrings
set_option linter.unusedVariables false
set_option linter.unusedSimpArgs false
section
namespace Go.Proofs.YtnegblckbomgdaaDoor.Ht
open Go Go.RowKit Go.Shelf Go.Proofs.YtnegblckbomgdaaDoor.Mem Go.Proofs.YtnegblckbomgdaaDoorW.PrintWords
attribute [local go_sem] Oper.semAt_some
set_option maxHeartbeats 1000000 in
theorem hall_in (b : Int) (A : Option Addr) (m cp : Nat) (w : World) :
    Calls Tryd.prog 97 #[.agg #[.int .u32 b, .slice A m cp]] w fun e w' => e = .returned (.func (.func 120) #[] #[.pointer (some ⟨w.heap.size, 0, none⟩)]) ∧ w' = w.alloc (.cells #[.int .u32 b, .slice A m cp] RWT) := by
  have hmf : ∀ (fn : Fn) (first cap : Array Value) (w : World), (Instr.makeFunc fn first cap).run Tryd.prog w = .ok (.func fn first cap) w := fun _ _ _ _ => rfl
  go_enter Tryd.func97, Tryd.ntmps97
  go_wp2
  go_ret
  exact ⟨rfl, rfl⟩
abbrev In (Z : List Sl) := {z : Sl // z ∈ Z}
theorem hall_stops (K : Nat → Prop) (Bn n N : Nat) (c : Nat → Option (List Value)) (s : Value) (w : World) (hT : Tab w) (hK0 : K 0) (hKB : K Bn) (hlt : ∀ b, K b → b < w.heap.size)
    (hbox : w.heap[Bn]? = some (.cells #[.int .u32 (bitsN (has c) 32 : Int), s] RWT (0, 0))) (hrow : RowS K w s c) (hX : Slots c) (hN : cnt (has c) 32 ≤ N) :
    SeqStopsK Fence.wide n Tryd.prog 120 #[.pointer (some ⟨Bn, 0, none⟩)] (fun x : In (zC c 0 32) => #[Value.int .i64 x.1.1, slotV x.1]) (Kept K) (fun zs => zs.map Subtype.val = zC c 0 32) (fun pre => True) N w := fun l J Jx W hW hA _ hY h0 => by
  have h := hall1_c K l Bn n N c s (fun ys W => ∃ zs : List (In (zC c 0 32)), zs.map Subtype.val = ys ∧ J zs W) (fun ys W => ∃ zs : List (In (zC c 0 32)), zs.map Subtype.val = ys ∧ Jx zs W)
    (fun mm pre x W1 hx hj hl => by
      obtain ⟨zs, rfl, hj⟩ := hj
      refine YieldAt.anyDepth (m := n - 1) rfl mm ?_
      have := hY zs ⟨x, hx⟩ W1 hj (by simpa using hl)
      obtain ⟨fn, tmps, assign, body, hy, hR⟩ := this
      refine ⟨fn, tmps, assign, body, hy, hR.mono ?_⟩
      rintro e W' (⟨rfl, h1, h2⟩ | ⟨rfl, h1⟩)
      · exact .inl ⟨rfl, ⟨_, by simp, h1⟩, h2⟩
      · exact .inr ⟨rfl, _, by simp, h1⟩)
    W (hT.below hW) hK0 hKB (fun b hb => Nat.lt_of_lt_of_le (hlt b hb) hW.size) ((hW.block Bn (hlt Bn hKB)).trans hbox) (hrow.below hW) hX ⟨[], rfl, h0⟩
    (fun pre W1 W2 hj hb => by obtain ⟨zs, h1, hj⟩ := hj; exact ⟨zs, h1, hA zs W1 W2 none hj ⟨hb.os, hb.tape, hb.output, hb.size, fun k hk _ => hb.block k hk⟩ (fun r e => by cases e)⟩) hN
  refine h.mono ?_
  rintro e W' ⟨h1, ⟨ys, rfl, zs, h2, h3⟩ | ⟨pre, -, zs, h2, h3⟩⟩
  · exact ⟨h1, .inl ⟨zs, h2, h3⟩⟩
  · exact ⟨h1, .inr ⟨zs, trivial, h3⟩⟩
def NP (Bo : Nat) (W W' : World) : Prop := ∀ (b : Nat) cs (t : TypeId) fr, W.heap[b]? = some (.cells cs t fr) → t ≠ PT → b ≠ Bo → W'.heap[b]? = some (.cells cs t fr)
theorem np_own {β : Type} (Bo : Nat) (W : World) : Own (fun (_ : β) W' => NP Bo W W') := fun s X Y row hs hg hrow b cs t fr h1 h2 h3 => by
  have hX := hs b cs t fr h1 h2 h3
  refine (hg.block b (blk_lt hX) (fun e => ?_)).trans hX
  obtain ⟨o, ho, hc⟩ := hrow b e.symm
  rw [hX] at ho; cases ho; cases hc
def AxS (lo : Nat) (a : Act) (z : Sl) (a' : Act) (W' : World) : Prop := ∃ Bx, lo ≤ Bx ∧ W'.heap[Bx]? = some (.cells #[.string z.2.1, .int .i64 z.2.2.1, .pointer z.2.2.2] ST (0, 0)) ∧
  a' = { tmps := ((a.tmps.setIfInBounds 28 (.int .i64 z.1)).setIfInBounds 29 (slotV z)).setIfInBounds 7 (.pointer (some ⟨Bx, 0, none⟩)), defers := [] }
theorem axs_own (B lo : Nat) (a : Act) (z : Sl) (a' : Act) : OwnFrom B (fun (_ : Unit) W => AxS lo a z a' W) := by
  rintro s X Y row ⟨Bx, h1, h2, h3⟩ hg hr
  refine ⟨Bx, h1, (hg.block Bx (blk_lt h2) (fun e => ?_)).trans h2, h3⟩
  obtain ⟨-, o, ho, hc⟩ := hr Bx e.symm
  rw [h2] at ho; cases ho; cases hc
theorem rangeS {Z : List Sl} {F : Fence} {n : Nat} {P : Program} {g : Operand} {assign body : Code} {Q : Exit → Act → World → Prop} {a : Act} {w : World}
    (hro : F.round = none) (h1 : 1 ≤ n) {gf : Nat} {lb : Array Value} (hg : a.eval g = .func (.func gf) #[] lb) (hFg : F.fn gf) (eg : ∀ args w, (callFunc gf args).run P w = .ok (.enter gf args) w)
    {Kp : World → World → Prop} {S Sp : List (In Z) → Prop} {N : Nat} {w0 : World} (hseq : SeqStopsK F (n - 1) P gf lb (fun x : In Z => #[Value.int .i64 x.1.1, slotV x.1]) Kp S Sp N w0)
    (hKt : ∀ {A B C : World}, Kp A B → Kp B C → Kp A C) (hKb : ∀ (W : World) (l : Nat) (o o' : Obj), w.heap.size ≤ l → W.heap[l]? = some o → o.isCells = false → o.isWalk = false → Kp W (W.putObj l o')) (hb0 : Below w0.heap.size w0 w)
    (I : List (In Z) → World → Prop) (Ix : Code → List (In Z) → World → Prop) (hI : OwnFrom w.heap.size I) (hIx : ∀ c, OwnFrom w.heap.size (Ix c)) (h0 : I [] w)
    (hassign : ∀ (l : Nat) (pre : List (In Z)) (x : In Z) (W : World) (K : Act → World → Prop), I pre W → (∀ a' W', KeepsFrom w.heap.size W W' → Kp W W' → I pre W' → AxS w.heap.size a x.1 a' W' → K a' W') →
      assign.wpIn (F.inRound l) (n - 1 - 1) P (Exit.then K (fun _ _ _ => False)) { tmps := ((#[28, 29] : Array Tmp).zip #[Value.int .i64 x.1.1, slotV x.1]).foldl (fun t (p, v) => t.setIfInBounds p v) a.tmps, defers := [] } W)
    (hbody : ∀ (l : Nat) (pre : List (In Z)) (x : In Z) (a' : Act) (W : World), w.heap.size ≤ l → (∃ r, W.heap[l]? = some (.loop r)) → I pre W → AxS w.heap.size a x.1 a' W → pre.length < N → body.wpIn (F.inRound l) (n - 1 - 1) P (ownPostG w.heap.size Kp I Ix (pre ++ [x]) W) a' W)
    (hdone : ∀ (D : Nat) (xs : List (In Z)) (W : World), w.heap.size ≤ D → S xs → I xs W → W.heap[D]? = some (.deferred (some [])) → Q .normal { a with defers := { target := .collected D, args := #[] } :: a.defers } W)
    (hstop : ∀ (D : Nat) (c : Code) (pre : List (In Z)) (W : World), w.heap.size ≤ D → Sp pre → Ix c pre W → W.heap[D]? = some (.deferred (some [])) → c.wpIn F n P Q { a with defers := { target := .collected D, args := #[] } :: a.defers } W) :
    (Code.rangeFunc g #[28, 29] assign body).wpIn F n P Q a w :=
  wpIn_rangeFunc_ownH hro h1 hg hFg eg hseq hKt hKb hb0 (fun _ => rfl) I Ix hI hIx h0 (fun x a' W => AxS w.heap.size a x.1 a' W) (fun x a' => axs_own _ _ _ _ _) hassign hbody hdone hstop
abbrev doV (Bo : Nat) : Value := .func (.func 103) #[] #[.pointer (some ⟨Bo, 0, none⟩)]
def ordZ (pr : Nat → List Pr) (zs : List Sl) : List Pr := zs.flatMap fun z => pr z.1.toNat
theorem ordZ_length {pr : Nat → List Pr} {S : Nat} (h : ∀ i, (pr i).length ≤ S) (zs : List Sl) : (ordZ pr zs).length ≤ zs.length * S := by
  induction zs with
  | nil => simp [ordZ]
  | cons z zs ih =>
    have e : ordZ pr (z :: zs) = pr z.1.toNat ++ ordZ pr zs := rfl
    rw [e, List.length_append, List.length_cons, Nat.add_mul, Nat.one_mul]
    have := h z.1.toNat
    omega
theorem ordZ_snoc (pr : Nat → List Pr) (zs : List Sl) (z : Sl) : ordZ pr (zs ++ [z]) = ordZ pr zs ++ pr z.1.toNat := by simp [ordZ]
theorem mem_zC {c : Nat → Option (List Value)} (hX : Slots c) {a n : Nat} {i : Int} {k : ByteArray} {y : Int} {q : Option Addr} (h : (i, k, y, q) ∈ zC c a n) : ∃ j : Nat, j < a + n ∧ i = (j : Int) ∧ c j = some [.string k, .int .i64 y, .pointer q] := by
  obtain ⟨j, hj, hz⟩ := List.mem_flatMap.1 h
  rw [List.mem_range'_1] at hj
  cases hc : c j with
  | none => rw [hc] at hz; cases hz
  | some x =>
    obtain ⟨k', y', q', rfl⟩ := hX j x hc
    rw [hc] at hz
    have hz' : (i, k, y, q) = ((j : Int), k', y', q') := by simpa [zOf] using hz
    injection hz' with h1 h2
    injection h2 with h2 h3
    injection h3 with h3 h4
    subst h1 h2 h3 h4
    exact ⟨j, hj.2, rfl, hc⟩
def Coll (base Bo : Nat) (new : List Pr) (p : Option Addr) (pre : List Pr) (W : World) : Prop :=
  Calls Tryd.prog 102 #[.pointer p, doV Bo] W (fun e W' => (∃ v, e = .returned v) ∧ Out base Bo (pre ++ new) W' ∧ Apt base Bo W W')
theorem SlK.old {k : Nat} {K : Nat → Prop} {w w' : World} {v : Value} {n : Nat} {cs : List Value} (h : SlK k K w v n cs) (hb : Kept K w w') : SlK k K w' v n cs := h.keep fun b hk _ => hb b hk
theorem Apt.kept {base Bo : Nat} {W W' : World} (h : Apt base Bo W W') {K : Nat → Prop} (hK : ∀ b, K b → b < base) : Kept K W W' := fun b hb => h.2.1.block b (hK b hb)
set_option maxRecDepth 100000 in
set_option maxHeartbeats 8000000 in
theorem each_walk (K : Nat → Prop) (hK0 : K 0) (base Bo : Nat) (hKb : ∀ b, K b → b < base) (hbo : base ≤ Bo) (g : Nat) (A : Option Addr) (nn cp : Nat) (c : Nat → Option (List Value)) (sl : Value) (M0 : List Pr) (pr : Nat → List Pr) (pre : List Pr) (W : World) (hbase : base ≤ W.heap.size) (hKg : K g)
    (hg : W.heap[g]? = some (.cells #[.int .u32 (bitsN (has c) 32 : Int), .slice A nn cp, sl] NT (0, 0))) (hrow : RowS K W (.slice A nn cp) c) (hsl : SlK 2 K W sl M0.length (prs M0)) (hT : Tab W) (hO : Out base Bo pre W) (S : Nat)
    (hkid : ∀ i x, i < 32 → c i = some x → (∃ k y, x = [.string k, .int .i64 y, .pointer none] ∧ pr i = [(k, y)]) ∨ (∃ g' : Nat, x = [.string ⟨#[]⟩, .int .i64 0, .pointer (some ⟨g', 0, none⟩)] ∧ ∀ pre' W', Kept K W W' → base ≤ W'.heap.size → Out base Bo pre' W' → pre'.length ≤ pre.length + 33 * S → Coll base Bo (pr i) (some ⟨g', 0, none⟩) pre' W'))
    (hX : Slots c)
    (hlen : pre.length + 33 * S ≤ 1000000) (hM0 : M0.length ≤ S) (hpr : ∀ i, (pr i).length ≤ S) :
    Coll base Bo (M0 ++ ordZ pr (zC c 0 32)) (some ⟨g, 0, none⟩) pre W := by
  obtain ⟨A2, c2, rfl⟩ := hsl.form
  obtain ⟨m, hm⟩ : ∃ m, m = M0.length := ⟨_, rfl⟩
  have hml : m ≤ 1000000 := by rw [hm]; omega
  have hmI : (m : Int) ≤ 1000000 := by omega
  rw [← hm] at hg
  have hoW : Bo < W.heap.size := by obtain ⟨v, hv, -⟩ := hO; exact hv.lt
  have hcb := (heap_alloc_new W (.cells #[doV Bo] 150))
  have hAp1 : Apt base Bo W (W.alloc (.cells #[doV Bo] 150)) := (Apt.refl base Bo W).alloc hbase _
  have hO1 : Out base Bo pre (W.alloc (.cells #[doV Bo] 150)) := by
    obtain ⟨v, hv, hr, -⟩ := hO
    exact ⟨v, hv.alloc _, hr.alloc _, trivial⟩
  obtain ⟨⟨k0, k1, k2⟩, -⟩ := box3 hg
  have hglt := blk_lt hg
  have k21 := cell_below k2 ((Below.refl W.heap.size W).alloc (Nat.le_refl _) (.cells #[doV Bo] 150))
  have HSL := Lib.hid hsl; have HROW := Lib.hid hrow; have HG := Lib.hid hg; have HT := Lib.hid hT; have HKID := Lib.hid hkid; have HX := Lib.hid hX; have HLEN := Lib.hid hlen; have HM0 := Lib.hid hM0; have HPR := Lib.hid hpr; have HM := Lib.hid hm; have HKB := Lib.hid hKb
  clear hsl hrow hg hT hkid hX hlen hm hO hM0 hpr
  refine (callsIn_wide (n := 3)).1 ?_
  refine callsIn_of_wp_marks Tryd.func102 rfl trivial ?_ rfl
  simp only [Tryd.ntmps102, List.size_toArray, List.length_cons, List.length_nil, Nat.reduceAdd, Nat.reduceSub, Array.replicate_succ, Array.replicate_zero, List.push_toArray, List.append_toArray, List.nil_append, List.cons_append]
  gi_wp2_with fail
  generalize W.alloc (.cells #[doV Bo] 150) = W1 at hcb hAp1 hO1 k21 ⊢
  gi_loopw [15] (fun i wr => ∃ k : Nat, i = .int .i64 (k : Int) ∧ k ≤ m ∧ Hid (Out base Bo (pre ++ M0.take k) wr) ∧ Hid (Apt base Bo W1 wr)) (fun i _ => m - (intOf i).toNat)
  case atStart => exact ⟨0, rfl, by omega, Lib.hid (by simpa using hO1), Lib.hid (Apt.refl _ _ _)⟩
  case round =>
    obtain ⟨k, rfl, hk, hOk, hAk⟩ := hrel
    have hKW : Kept K W wr := (hAp1.trans hAk.out).kept HKB.out
    by_cases hkm : k = m
    · subst hkm
      have hgr := (hKW g hKg).trans HG.out
      obtain ⟨⟨k0r, k1r, k2r⟩, -⟩ := box3 hgr
      have hbx : wr.heap[W.heap.size]? = some (.cells #[doV Bo] 150 (0, 0)) := hAk.out.2.2 _ _ _ _ hcb (by decide) (by omega)
      have hOr : Out base Bo (pre ++ M0) wr := by have := hOk.out; rwa [List.take_of_length_le (by rw [HM.out]; exact Nat.le_refl _)] at this
      have hAr := hAp1.trans hAk.out
      have HOR := Lib.hid hOr; have HAR := Lib.hid hAr; have HKW := Lib.hid hKW; have HBX := Lib.hid hbx
      clear hOr hAr hKW hbx hOk hAk hO1 hAp1 hgr hcb k0 k1 k2 k21
      gi_wp2_with fail
      refine ⟨trivial, (callsIn_wide.2 (hall_in _ A nn cp _)).mono ?_⟩
      rintro e w' ⟨rfl, rfl⟩
      gi_wp2_with fail
      have hAl : Apt base Bo wr (wr.alloc (.cells #[.int .u32 (bitsN (has c) 32 : Int), .slice A nn cp] RWT)) := (Apt.refl base Bo wr).alloc (Nat.le_trans hbase HAR.out.1.size) _
      have hA2 := HAR.out.trans hAl
      have hwrs : W.heap.size ≤ wr.heap.size := HAR.out.1.size
      have hK2 : Kept K W (wr.alloc (.cells #[.int .u32 (bitsN (has c) 32 : Int), .slice A nn cp] RWT)) := hA2.kept HKB.out
      have hbn := blk_new wr (Obj.cells #[.int .u32 (bitsN (has c) 32 : Int), .slice A nn cp] RWT)
      have hcb2 : (wr.alloc (.cells #[.int .u32 (bitsN (has c) 32 : Int), .slice A nn cp] RWT)).heap[W.heap.size]? = some (.cells #[doV Bo] 150 (0, 0)) := blk_alloc HBX.out _
      have hO2 : Out base Bo (pre ++ M0) (wr.alloc (.cells #[.int .u32 (bitsN (has c) 32 : Int), .slice A nn cp] RWT)) := by
        obtain ⟨v, hv, hr, -⟩ := HOR.out
        exact ⟨v, hv.alloc _, hr.alloc _, trivial⟩
      have hsz : (wr.alloc (.cells #[.int .u32 (bitsN (has c) 32 : Int), .slice A nn cp] RWT)).heap.size = wr.heap.size + 1 := by simp
      obtain ⟨W2, hW2⟩ : ∃ W2, W2 = wr.alloc (.cells #[.int .u32 (bitsN (has c) 32 : Int), .slice A nn cp] RWT) := ⟨_, rfl⟩
      rw [← hW2] at hA2 hK2 hbn hcb2 hO2 hsz ⊢
      have hK' : ∀ b, (K b ∨ b = wr.heap.size) → b < W2.heap.size := fun b hb => hb.elim (fun h => by have := HKB.out b h; have := hA2.1.size; omega) fun h => by omega
      have hOwn : OwnFrom W2.heap.size (fun (zs : List (In (zC c 0 32))) W' => (((∃ v, Boxed W' Bo PLT v ∧ W'.ownsRow base PT 2 v (pre ++ M0 ++ ordZ pr (zs.map Subtype.val)).length (prs (pre ++ M0 ++ ordZ pr (zs.map Subtype.val))) ∧ True) ∧ Below base W W') ∧ NP Bo W2 W') ∧ KeepsFrom 0 W W') :=
        OwnFrom.and (OwnFrom.and (OwnFrom.and (Own.from (holdsRow_own base Bo PLT PT 2 (fun zs : List (In (zC c 0 32)) => (pre ++ M0 ++ ordZ pr (zs.map Subtype.val)).length) (fun zs => prs (pre ++ M0 ++ ordZ pr (zs.map Subtype.val))) (fun _ _ => True)) _) (ownFrom_below hbase (by have := hA2.1.size; omega))) (Own.from (np_own Bo W2) _)) (ownFrom_keepsFrom (by have := hA2.1.size; omega))
      refine' rangeS (Z := zC c 0 32) rfl (by decide) (gf := 120) (lb := #[.pointer (some ⟨wr.heap.size, 0, none⟩)]) rfl trivial (enters_of Tryd.func120 (by kernel_rfl) rfl)
        (hall_stops (fun b => K b ∨ b = wr.heap.size) wr.heap.size _ (cnt (has c) 32) c (.slice A nn cp) W2 (HT.out.old hK0 hK2) (Or.inl hK0) (Or.inr rfl) hK' hbn (((HROW.out.old hK2)).keep (fun b h _ => Or.inl h) (fun _ _ _ => rfl)) HX.out (Nat.le_refl _)) (fun h k => Kept.trans h k) ?kb ?b0
        _ (fun _ _ _ => False) hOwn (fun _ _ _ _ _ hs _ _ => hs) ?h0 ?assign ?body ?done ?stop
      case b0 => exact Below.refl _ _
      case h0 => exact ⟨⟨⟨by have h := hO2; unfold Out at h; simpa [ordZ] using h, hA2.2.1⟩, fun _ _ _ _ h _ _ => h⟩, hA2.1.from 0⟩
      case kb =>
        intro W' l o o' hl _ _ _ b hb
        have hb4 := hK' b hb
        have hne : b ≠ l := by omega
        simp [World.putObj, Array.getElem?_setIfInBounds_ne (Ne.symm hne)]
      case stop =>
        rintro D cc zs W' _ _ h _
        exact h.elim
      case assign =>
        rintro l pre' x W' K' hI hK
        obtain ⟨⟨i, k, y, q⟩, hx⟩ := x
        have hs2 : W2.heap.size ≤ W'.heap.size := by
          have h1 := hI.1.2 _ _ _ _ hbn (by decide) (by omega)
          have := blk_lt h1
          omega
        gi_wp2_with fail
        refine hK _ _ ((KeepsOthers.alloc W' (Obj.cells #[.string k, .int .i64 y, .pointer q] ST)).from _) (fun b hb => hao W' (Obj.cells #[.string k, .int .i64 y, .pointer q] ST) b (by have := hK' b hb; omega)) (hOwn.alloc _ hI) ⟨W'.heap.size, hs2, blk_new W' _, by first | rfl | simp⟩
      case done =>
        rintro D zs W' hD hS ⟨⟨⟨hO', hB'⟩, hNP⟩, hKF⟩ hK
        gi_wp2_with fail
        refine ⟨by simp, .inl ⟨_, _, rfl, run_takeDeferred hK, ?_⟩⟩
        have hne : ∀ (b : Nat) (cs : Array Value) (t : TypeId) (fr : Nat × Nat), W'.heap[b]? = some (Obj.cells cs t fr) → (W'.putObj D (.deferred none)).heap[b]? = some (Obj.cells cs t fr) := fun b cs t fr h => by
          have hbD : b ≠ D := fun e => by subst e; rw [h] at hK; cases hK
          rw [World.putObj_heap_other hbD]; exact h
        obtain ⟨v, hv, hr, -⟩ := hO'
        rw [hS] at hr
        refine ⟨_, results_none rfl _ _ _, ⟨_, rfl⟩, ⟨v, hne _ _ _ _ hv, ?_, trivial⟩, ⟨⟨?_, ?_⟩, hB'.trans (belowK_b (w := W) hbase W' D _ _ (by omega) hK rfl rfl), ?_⟩⟩
        · have h2 := ownsRow_putObj hr (.deferred none) hK rfl
          rw [← List.append_assoc]
          exact h2
        · have := hKF.size; simpa [World.putObj] using this
        · intro k o hk ho
          have hkD : k ≠ D := by have := (Array.getElem?_eq_some_iff.1 hk).1; omega
          rw [World.putObj_heap_other hkD]
          exact hKF.same k o (Nat.zero_le _) hk ho
        · intro b cs t fr h1 h2 h3
          exact hne _ _ _ _ (hNP _ _ _ _ (hA2.2.2 _ _ _ _ h1 h2 h3) h2 h3)
      case body =>
        rintro l pre' ⟨⟨i, k, y, q⟩, hx⟩ a' W' hl hlr hI ⟨Bx, hBx, hbx, rfl⟩ hlt
        obtain ⟨⟨z0, z1, z2⟩, -⟩ := box3 hbx
        dsimp only at z0 z1 z2
        have hcd := (box1 (hI.1.2 _ _ _ _ hcb2 (by decide) (by omega))).1
        obtain ⟨j, hj, rfl, hcj⟩ := mem_zC HX.out hx
        have hoz := ordZ_length HPR.out (pre'.map Subtype.val)
        have hc32 := cnt_le (has c) 32
        have hpl : (pre ++ M0 ++ ordZ pr (pre'.map Subtype.val)).length ≤ pre.length + 33 * S := by
          have h1 := HM0.out
          rw [List.length_map] at hoz
          have h2 : pre'.length * S ≤ 32 * S := Nat.mul_le_mul_right S (by omega)
          rw [List.length_append, List.length_append]
          omega
        have hsn : ordZ pr ((pre' ++ [(⟨((j : Int), k, y, q), hx⟩ : In (zC c 0 32))]).map Subtype.val) = ordZ pr (pre'.map Subtype.val) ++ pr j := by
          rw [List.map_append]
          exact ordZ_snoc pr _ _
        have hKW' : Kept K W W' := fun b hb => hI.1.1.2.block b (HKB.out b hb)
        have hsW' : base ≤ W'.heap.size := Nat.le_trans hbase hI.2.size
        have hfin : ∀ w2, Out base Bo (pre ++ M0 ++ ordZ pr (pre'.map Subtype.val) ++ pr j) w2 → Apt base Bo W' w2 → KeepsFrom W2.heap.size W' w2 ∧ Kept (fun b => K b ∨ b = wr.heap.size) W' w2 ∧ ((((∃ v, Boxed w2 Bo PLT v ∧ w2.ownsRow base PT 2 v (pre ++ M0 ++ ordZ pr ((pre' ++ [(⟨((j : Int), k, y, q), hx⟩ : In (zC c 0 32))]).map Subtype.val)).length (prs (pre ++ M0 ++ ordZ pr ((pre' ++ [(⟨((j : Int), k, y, q), hx⟩ : In (zC c 0 32))]).map Subtype.val))) ∧ True) ∧ Below base W w2) ∧ NP Bo W2 w2) ∧ KeepsFrom 0 W w2) := by
          intro w2 hO hA
          refine ⟨hA.1.from _, fun b hb => ?_, ⟨⟨?_, hI.1.1.2.trans hA.2.1⟩, fun b cs t fr h1 h2 h3 => hA.2.2 _ _ _ _ (hI.1.2 _ _ _ _ h1 h2 h3) h2 h3⟩, hI.2.trans (hA.1.from 0)⟩
          · rcases hb with hb | hb
            · exact hA.2.1.block b (HKB.out b hb)
            · rw [hb]
              have h1 := hI.1.2 _ _ _ _ hbn (by decide) (by omega)
              rw [h1]
              exact hA.2.2 _ _ _ _ h1 (by decide) (by omega)
          · rw [hsn, ← List.append_assoc]
            exact hO
        have HFIN := Lib.hid hfin
        have HO' := Lib.hid (show Out base Bo (pre ++ M0 ++ ordZ pr (pre'.map Subtype.val)) W' from hI.1.1.1)
        have hlen6 : (pre ++ M0 ++ ordZ pr (pre'.map Subtype.val)).length ≤ 1000000 := Nat.le_trans hpl HLEN.out
        rcases HKID.out j _ (by omega) hcj with ⟨k2, y2, he, hprj⟩ | ⟨g', he, hcoll⟩
        · injection he with h1 h2
          injection h2 with h2 h3
          injection h3 with h3 _
          injection h1 with h1
          injection h2 with _ h2
          injection h3 with h3
          subst h1 h2 h3
          rw [hprj] at HFIN
          clear hI hbx hlr hl hoz hsn hfin hcj
          gi_wp2_with fail
          refine ⟨trivial, (CallsIn.inRound l (callsIn_wide.2 (pairs1_c base Bo _ k y _ HO'.out hbo hlen6))).mono ?_⟩
          rintro e w2 ⟨⟨v, rfl⟩, hO2, hA2⟩
          have HE := Lib.hid (HFIN.out w2 hO2 hA2)
          clear hO2 hA2
          gi_wp2_with fail
          exact HE.out
        · injection he with h1 h2
          injection h2 with h2 h3
          injection h3 with h3 _
          injection h1 with h1
          injection h2 with _ h2
          injection h3 with h3
          subst h1 h2 h3
          have HC := Lib.hid (hcoll _ W' hKW' hsW' HO'.out hpl)
          clear hI hbx hlr hl hoz hsn hfin hcj hcoll
          gi_wp2_with fail
          refine ⟨trivial, (CallsIn.inRound l (callsIn_wide.2 HC.out)).mono ?_⟩
          rintro e w2 ⟨⟨v, rfl⟩, hO2, hA2⟩
          have HE := Lib.hid (HFIN.out w2 hO2 hA2)
          clear hO2 hA2
          gi_wp2_with fail
          exact HE.out
    · have hklt : k < m := by omega
      have hkI : (k : Int) < (m : Int) := by omega
      obtain ⟨⟨ek, ex⟩, hex⟩ : ∃ e, M0[k]? = some e := ⟨_, List.getElem?_eq_getElem (by rw [← HM.out]; exact hklt)⟩
      obtain ⟨gl, rfl, -, hcl⟩ := (SlK.old HSL.out hKW).addr (by rw [← HM.out]; omega)
      obtain ⟨e0, e1⟩ := prs_get M0 k _ hex
      have c0 := hcl _ _ e0
      have c1 := hcl _ _ e1
      have hbx : wr.heap[W.heap.size]? = some (.cells #[doV Bo] 150 (0, 0)) := hAk.out.2.2 _ _ _ _ hcb (by decide) (by omega)
      have d0 := fun o => (box1 (blk_alloc hbx o)).1
      clear hcl e0 e1
      have hOa : Out base Bo (pre ++ M0.take k) (wr.alloc (.cells #[.string ek, .int .i64 ex] PT)) := by
        obtain ⟨v, hv, hr, -⟩ := hOk.out
        exact ⟨v, hv.alloc _, hr.alloc _, trivial⟩
      have hbw : base ≤ wr.heap.size := Nat.le_trans hbase (Nat.le_trans hAp1.1.size hAk.out.1.size)
      have hla : (pre ++ M0.take k).length ≤ 1000000 := by have := HLEN.out; have := HM0.out; have := HM.out; rw [List.length_append, List.length_take]; omega
      have hok : Out base Bo (pre ++ M0.take k ++ [(ek, ex)]) = Out base Bo (pre ++ M0.take (k + 1)) := by
        rw [List.take_add_one, hex, Option.toList_some, List.append_assoc]
      have hA0 := hAk.out.alloc hbw (.cells #[.string ek, .int .i64 ex] PT)
      have HOa := Lib.hid hOa; have HA0 := Lib.hid hA0; have HOK := Lib.hid hok
      clear hOa hA0 hok hex
      gi_wp2_with fail
      refine ⟨trivial, (callsIn_wide.2 (pairs1_c base Bo (pre ++ M0.take k) ek ex _ HOa.out hbo hla)).mono ?_⟩
      rintro e w2 ⟨⟨v, rfl⟩, hO2, hA2⟩
      have HO2 := Lib.hid hO2; have HA2 := Lib.hid hA2
      clear hO2 hA2
      gi_wp2_with fail
      go_roundw
      case rel => exact ⟨k + 1, by first | rfl | (push_cast; rfl), by omega, Lib.hid (by rw [← HOK.out]; exact HO2.out), Lib.hid (HA0.out.trans HA2.out)⟩
      case measure => simp [intOf]; omega
end Go.Proofs.YtnegblckbomgdaaDoor.Ht
end
section
namespace Go.Proofs.YtnegblckbomgdaaDoor.Ht
open Go Go.RowKit Go.Shelf Go.Proofs.YtnegblckbomgdaaDoor.Mem Go.Proofs.YtnegblckbomgdaaDoorW.PrintWords
def ordL (c : Cf) : Nat → List Pr → List Pr
  | 0, M => M
  | d + 1, M => (List.range 32).flatMap fun i => if (grp (chk c (12 - d)) i M).length ≤ 1 then grp (chk c (12 - d)) i M else ordL c d (grp (chk c (12 - d)) i M)
theorem grp_parts (ck : ByteArray → Nat) (M : List Pr) : ∀ n, ((List.range n).flatMap fun i => grp ck i M).Perm (M.filter fun e => decide (ck e.1 < n))
  | 0 => by simp
  | n + 1 => by
    rw [List.range_succ, List.flatMap_append]
    have ih := grp_parts ck M n
    have e : ([n] : List Nat).flatMap (fun i => grp ck i M) = grp ck n M := by simp
    rw [e]
    refine (List.Perm.append_right _ ih).trans ?_
    unfold grp
    have h1 := List.filter_append_perm (fun e : Pr => decide (ck e.1 < n)) (M.filter fun e => decide (ck e.1 < n + 1))
    rw [List.filter_filter, List.filter_filter] at h1
    have ea : (M.filter fun e => decide (ck e.1 < n) && decide (ck e.1 < n + 1)) = M.filter fun e => decide (ck e.1 < n) := List.filter_congr fun e _ => by
      by_cases h : ck e.1 < n <;> simp [h]; omega
    have eb : (M.filter fun e => !decide (ck e.1 < n) && decide (ck e.1 < n + 1)) = M.filter fun e => decide (ck e.1 = n) := List.filter_congr fun e _ => by
      by_cases h : ck e.1 = n <;> simp [h]; omega
    rw [ea, eb] at h1
    exact h1
theorem flatMap_perm {α β : Type} (l : List α) (f g : α → List β) (h : ∀ a ∈ l, (f a).Perm (g a)) : (l.flatMap f).Perm (l.flatMap g) := by
  induction l with
  | nil => exact List.Perm.refl _
  | cons a l ih =>
    rw [List.flatMap_cons, List.flatMap_cons]
    exact (h a (by simp)).append (ih fun b hb => h b (by simp [hb]))
theorem ordL_perm (c : Cf) : ∀ (d : Nat) (M : List Pr), (ordL c d M).Perm M
  | 0, M => List.Perm.refl _
  | d + 1, M => by
    unfold ordL
    refine (flatMap_perm _ _ (fun i => grp (chk c (12 - d)) i M) fun i _ => ?_).trans ((grp_parts _ M 32).trans ?_)
    · split
      · exact List.Perm.refl _
      · exact ordL_perm c d _
    · rw [List.filter_eq_self.2 fun e _ => by simp [chk_lt]]
theorem ordL_length (c : Cf) (d : Nat) (M : List Pr) : (ordL c d M).length = M.length := (ordL_perm c d M).length_eq
theorem ordZ_conts (c : Cf) (l : Nat) (M : List Pr) (q : Nat → Option Addr) (pr : Nat → List Pr) (h : ∀ i, grp (chk c l) i M = [] → pr i = []) : ∀ n, ordZ pr (zC (conts c l M q) 0 n) = (List.range n).flatMap pr
  | 0 => rfl
  | n + 1 => by
    rw [zC_add, Nat.zero_add, zC_one, List.range_succ, List.flatMap_append]
    have ih := ordZ_conts c l M q pr h n
    unfold ordZ at ih ⊢
    rw [List.flatMap_append, ih]
    congr 1
    show (zOf n (slotOf (grp (chk c l) n M) (q n))).flatMap _ = _
    match hg : grp (chk c l) n M with
    | [] => rw [show slotOf ([] : List Pr) (q n) = none from rfl]; simp [zOf, h n hg]
    | [e] => simp [slotOf, zOf]
    | e1 :: e2 :: r => simp [slotOf, zOf]
theorem each_c (c : Cf) (S : Nat) : ∀ (d : Nat) (K : Nat → Prop) (hK0 : K 0) (base Bo : Nat) (hKb : ∀ b, K b → b < base) (hbo : base ≤ Bo) (p : Option Addr) (M : List Pr) (pre : List Pr) (W : World), HRep c K W d p M → M.length ≤ S → Tab W → base ≤ W.heap.size → Out base Bo pre W → pre.length + 33 * S * (d + 1) ≤ 1000000 → Coll base Bo (ordL c d M) p pre W
  | 0, K, hK0, base, Bo, hKb, hbo, p, M, pre, W, h, hM, hT, hb, hO, hl => by
    obtain ⟨g, s, rfl, hKg, hg, hsl⟩ := h
    have hz : zC noneC 0 32 = [] := zC_none noneC 0 32 fun _ _ _ => rfl
    have hw := each_walk K hK0 base Bo hKb hbo g none 0 0 noneC s M (fun _ => []) pre W hb hKg (by rw [bits_none]; exact hg) (rows_none K W) hsl hT hO S (fun i x hi hx => by cases hx) (fun i x hx => by cases hx) (by omega) hM (fun _ => Nat.zero_le _)
    rw [hz] at hw
    simpa [ordZ, ordL] using hw
  | d + 1, K, hK0, base, Bo, hKb, hbo, p, M, pre, W, h, hM, hT, hb, hO, hl => by
    obtain ⟨g, s, q, rfl, hKg, hg, hrow, hkids⟩ := h
    obtain ⟨A, nn, cp, rfl⟩ := row_form' hrow
    obtain ⟨l, hll⟩ : ∃ l, l = 12 - d := ⟨_, rfl⟩
    rw [← hll] at hg hrow hkids
    have hGl : ∀ i, (grp (chk c l) i M).length ≤ S := fun i => Nat.le_trans (List.length_filter_le _ _) hM
    have hw := each_walk K hK0 base Bo hKb hbo g A nn cp (conts c l M q) (.slice none 0 0) [] (fun i => if (grp (chk c l) i M).length ≤ 1 then grp (chk c l) i M else ordL c d (grp (chk c l) i M)) pre W hb hKg hg hrow (SlK.nil 2 K W) hT hO S
      (fun i x hi hx => by
        have hx' : slotOf (grp (chk c l) i M) (q i) = some x := hx
        have hki := hkids i hi
        have hgl := hGl i
        generalize grp (chk c l) i M = G at hx' hki hgl
        match G, hx' with
        | [e], hx' => exact .inl ⟨e.1, e.2, by simpa [slotOf] using hx'.symm, by simp⟩
        | e1 :: e2 :: r, hx' =>
          have hk := hki (by simp)
          obtain ⟨g', hq, -, -⟩ := hk.ptr
          refine .inr ⟨g', by rw [← hq]; simpa [slotOf] using hx'.symm, fun pre' W' hKW hb' hO' hl' => ?_⟩
          rw [if_neg (by simp), ← hq]
          exact each_c c S d K hK0 base Bo hKb hbo (q i) _ pre' W' (hk.old hKW) hgl (hT.old hK0 hKW) hb' hO' (by
            have e : 33 * S * (d + 1 + 1) = 33 * S * (d + 1) + 33 * S := by rw [Nat.mul_add, Nat.mul_one]
            omega))
      (fun i x hx => by
        have hx' : slotOf (grp (chk c l) i M) (q i) = some x := hx
        match hG : grp (chk c l) i M with
        | [] => rw [hG] at hx'; cases hx'
        | [e] => rw [hG] at hx'; exact ⟨e.1, e.2, none, by simpa [slotOf] using hx'.symm⟩
        | e1 :: e2 :: r => rw [hG] at hx'; exact ⟨_, _, q i, by simpa [slotOf] using hx'.symm⟩)
      (by
        have e : 33 * S * (d + 1 + 1) = 33 * S * (d + 1) + 33 * S := by rw [Nat.mul_add, Nat.mul_one]
        omega)
      (Nat.zero_le _) (fun i => by
        split
        · exact hGl i
        · rw [ordL_length]; exact hGl i)
    rw [ordZ_conts c l M q _ (fun i h => by rw [h]; rfl) 32, List.nil_append] at hw
    have e : ordL c (d + 1) M = (List.range 32).flatMap fun i => if (grp (chk c l) i M).length ≤ 1 then grp (chk c l) i M else ordL c d (grp (chk c l) i M) := by rw [hll]; rfl
    rw [e]
    exact hw
end Go.Proofs.YtnegblckbomgdaaDoor.Ht
end
section
namespace Go.Proofs.YtnegblckbomgdaaDoor.Ht
open Go Go.RowKit Go.Shelf Go.Proofs.YtnegblckbomgdaaDoor.Mem Go.Proofs.YtnegblckbomgdaaDoorW.PrintWords Go.Proofs.YtnegblckbomgdaaDoor.U64
set_option maxHeartbeats 1000000 in
theorem len_w (y bits : Int) (n : Nat) (p : Option Addr) (w : World) : Calls Tryd.prog 29 #[mpv y bits n p] w (Ret (fun v _ => v = .int .i64 (n : Int)) w) := by
  go_enter Tryd.func29, Tryd.ntmps29
  go_wp2
  go_returns
  exact ⟨_, rfl, rfl, (Below.refl _ _).alloc (Nat.le_refl _) _⟩
theorem mlen_c (c : Cf) (K : Nat → Prop) (v : Value) (L : List Pr) (w : World) (h : MapV c K w v L) : Calls Tryd.prog 29 #[v] w (Ret (fun v _ => v = .int .i64 (L.length : Int)) w) := by
  obtain ⟨p, rfl, -⟩ := h
  exact len_w _ _ _ p w
set_option maxHeartbeats 1000000 in
theorem new_w (y bits : Int) (w : World) : Calls Tryd.prog 19 #[.agg #[.int .u64 y, .int .i64 bits]] w (Ret (fun v _ => v = mpv y bits 0 none) w) := by
  go_enter Tryd.func19, Tryd.ntmps19
  go_wp2
  refine bodyPost_ret (results_c1 rfl _ _ (w.heap.size + 1) MT #[.int .u64 y, .int .i64 bits, .int .i64 0, .pointer none] (0, 0) _ rfl (heap_k1 w _ _) Tryd.underlying30 rfl (by kernel_rfl)) rfl ?_
  exact ⟨_, rfl, rfl, ((Below.refl _ _).alloc (Nat.le_refl _) _).alloc (by simp) _⟩
set_option maxHeartbeats 1000000 in
theorem each_nil (base Bo : Nat) (pre : List Pr) (W : World) (hb : base ≤ W.heap.size) (hO : Out base Bo pre W) : Coll base Bo [] none pre W := by
  have HO := Lib.hid hO; clear hO
  unfold Coll
  go_enter Tryd.func102, Tryd.ntmps102
  go_wp2
  refine bodyPost_ret (results_none rfl _ _ _) rfl ?_
  obtain ⟨v, hv, hr, -⟩ := HO.out
  exact ⟨⟨_, rfl⟩, ⟨v, hv.alloc _, by rw [List.append_nil]; exact hr.alloc _, trivial⟩, (Apt.refl base Bo W).alloc hb _⟩
theorem each_map (c : Cf) (base Bo : Nat) (hbo : base ≤ Bo) (h0 : 0 < base) (p : Option Addr) (L : List Pr) (W : World) (h : MRep c (fun b => b < base) W p L) (hl : L.length ≤ 1000) (hT : Tab W) (hb : base ≤ W.heap.size) (hO : Out base Bo [] W) :
    ∃ L', L'.Perm L ∧ Coll base Bo L' p [] W := by
  rcases h with ⟨rfl, rfl⟩ | h
  · exact ⟨[], List.Perm.refl _, each_nil base Bo [] W hb hO⟩
  · exact ⟨ordL c 13 L, ordL_perm c 13 L, each_c c 1000 13 (fun b => b < base) h0 base Bo (fun _ h => h) hbo p L [] W h hl hT hb hO (by simp)⟩
end Go.Proofs.YtnegblckbomgdaaDoor.Ht
end
section
namespace Go.Proofs.YtnegblckbomgdaaDoor.Ht
open Go Go.RowKit Go.Shelf Go.Sort Go.Proofs.YtnegblckbomgdaaDoor.Mem Go.Proofs.YtnegblckbomgdaaDoor.PA Go.Proofs.YtnegblckbomgdaaDoorW.PrintWords
theorem qorder_d (a b : ByteArray) (w : World) : Calls Tryd.prog 90 #[.string a, .string b] w (fun e w' => e = .returned (.int .i64 (ordB a b)) ∧ ∃ q, w' = w.drewN q) := by
  have hf : quote_Order.f a b = some (ordB a b) := by
    unfold quote_Order.f ordB klt
    split
    · rfl
    · split <;> rfl
  refine (quote_Order.calls a b _ w hf).mono ?_
  rintro e w' ⟨rfl, hD⟩
  exact ⟨rfl, by obtain ⟨q, hq⟩ := hD; exact ⟨q, hq⟩⟩
theorem grow_drewN (w : World) (os : Array Obj) (q : Nat) : (grow w os).drewN q = grow (w.drewN q) os := by
  induction q with
  | zero => rfl
  | succ q ih =>
    show ((grow w os).drewN q).drew = grow ((w.drewN q).drew) os
    rw [ih]
    rfl
set_option maxHeartbeats 1000000 in
theorem cmp2_c (a b : ByteArray) (x y : Int) (W : World) : Calls Tryd.prog 105 #[.agg #[.string a, .int .i64 x], .agg #[.string b, .int .i64 y]] W fun e w' => e = .returned (.int .i64 (ordB a b)) ∧ ∃ q os', w' = grow (W.drewN q) os' := by
  have HQ := Lib.hid (fun V => qorder_d a b V)
  generalize ordB a b = r at HQ ⊢
  go_enter Tryd.func105, Tryd.ntmps105
  go_wp2_with (first
    | (go_at_call 90; ((with_reducible refine (HQ.out _).mono ?_); rintro e w' ⟨rfl, q, rfl⟩))
    | fail)
  go_ret
  exact ⟨rfl, q, _, by rw [alloc_eq_grow, alloc_eq_grow, grow_grow, grow_drewN]⟩
end Go.Proofs.YtnegblckbomgdaaDoor.Ht
end
section
namespace Go.Proofs.YtnegblckbomgdaaDoor.Ht
open Go Go.RowKit
theorem srt_ne {L : List Pr} (h : Srt L) : L.Pairwise fun a b => a.1 ≠ b.1 := List.Pairwise.imp (fun h => klt_ne h) h
theorem sorted_is {L M : List Pr} (hL : Srt L) (hp : M.Perm L) (d' : Array Pr) (h1 : Sort.PermIn 0 M.length M.toArray d') (h2 : ∀ i j, i < j → j < M.length → klt d'[j]!.1 d'[i]!.1 = false) : d'.toList = L := by
  obtain ⟨hs, -, hperm⟩ := h1
  have hsz : d'.size = M.length := by simpa using hs
  have e1 : (d'.extract 0 M.length).toList = d'.toList := by rw [← hsz]; simp
  have e2 : ((M.toArray).extract 0 M.length).toList = M := by simp
  rw [e1, e2] at hperm
  have hpL := hperm.trans hp
  have hne : d'.toList.Pairwise fun a b => a.1 ≠ b.1 := (hpL.pairwise_iff (fun h e => h e.symm)).2 (srt_ne hL)
  refine srt_perm ?_ hL hpL
  rw [Srt, List.pairwise_iff_getElem]
  rw [List.pairwise_iff_getElem] at hne
  intro i j hi hj hij
  have hj' : j < M.length := by rw [← hsz]; simpa using hj
  have h := h2 i j hij hj'
  rw [getElem!_pos d' j (by omega), getElem!_pos d' i (by omega)] at h
  have hn := hne i j hi hj hij
  simp only [Array.getElem_toList] at hn ⊢
  cases hk : klt d'[i].1 d'[j].1 with
  | true => rfl
  | false => exact absurd (klt_tri hk h) hn
end Go.Proofs.YtnegblckbomgdaaDoor.Ht
end
section
namespace Go.Proofs.YtnegblckbomgdaaDoor.Ht
open Go Go.RowKit Go.Shelf Go.Proofs.YtnegblckbomgdaaDoor.Mem Go.Proofs.YtnegblckbomgdaaDoor.PA Go.Proofs.YtnegblckbomgdaaDoorW.PrintWords
attribute [local go_sem ↓] Go.wp_at_zero Go.wp_at_succ
def digL : Nat → Nat → List Nat
  | 0, n => [48 + n % 10]
  | k + 1, n => if n < 10 then [48 + n] else digL k (n / 10) ++ [48 + n % 10]
def byteC (l : List Nat) : List Value := l.map fun (x : Nat) => Value.int .u8 (x : Int)
def DigI (w : World) (n : Nat) (T : List Nat) (gk : Nat) (v4 v5 : Value) (wr : World) : Prop :=
  ∃ (S : List Nat) (u : Nat), S.length + gk = 19 ∧ v4 = .int .i64 (20 - (S.length : Int)) ∧ v5 = .int .u64 (u : Int) ∧ u < 10 ^ (gk + 1) ∧ u < 1000000000 ∧ (∀ x ∈ S, x < 256) ∧ T = digL gk u ++ S ∧
    wr.heap[w.heap.size]? = some (.cells (List.replicate (20 - S.length) (Value.int .u8 0) ++ byteC S).toArray 164 (0, 0)) ∧ Below w.heap.size w wr
theorem dig_set (gk : Nat) (S : List Nat) (x : Nat) : (List.replicate (gk + 1) (Value.int .u8 0) ++ byteC S).set gk (.int .u8 (x : Int)) = List.replicate gk (Value.int .u8 0) ++ byteC (x :: S) := by
  rw [List.set_append_left _ _ (by simp), List.replicate_succ']
  rw [List.set_append_right _ _ (by simp)]
  simp [byteC]
def digT (n : Nat) : ByteArray := ⟨((digL 19 n).map fun x => UInt8.ofNat x).toArray⟩
set_option maxRecDepth 100000 in
set_option maxHeartbeats 4000000 in
theorem digits_c (n : Nat) (hn : n < 1000000000) (w : World) : Calls Tryd.prog 96 #[.int .i64 (n : Int)] w (Ret (fun v _ => v = .string (digT n)) w) := by
  have hf : num_size.f (n : Int) = some (n : Int) := by
    unfold num_size.f
    rw [if_neg (by omega)]
    simp [IntKind.wrap_u64]; omega
  have HS := Lib.hid (fun V => num_size.calls (n : Int) _ V hf)
  have hnI : ¬ ((n : Int) < 0) := by omega
  clear hf
  go_enter Tryd.func96, Tryd.ntmps96
  go_wp2_with (first
    | (go_at_call 119; ((with_reducible refine (HS.out _).mono ?_); rintro e w1 ⟨rfl, hD⟩; have hb1 := hD.below; have B1 := blk_below (blk_new w (.cells (Array.replicate 20 (.int .u8 0)) 164)) hb1))
    | fail)
  have HB1 := Lib.hid (below_trans ((Below.refl _ _).alloc (Nat.le_refl _) _) hb1)
  have HBB := Lib.hid B1
  clear hb1 B1 hD
  go_loopg [4, 5] 19 (fun gk v4 v5 wr => Aside (DigI w n (digL 19 n) gk v4 v5 wr))
  case atStart =>
    show DigI _ _ _ _ _ _ _
    refine ⟨[], n, rfl, rfl, rfl, by omega, hn, (fun x hx => by cases hx), by simp, ?_, HB1.out⟩
    exact HBB.out
  case round =>
    obtain ⟨S, u, hS, rfl, rfl, hu, hu9, hS2, hT, hg, hB⟩ := hrel.out
    clear hrel
    have hat : IntKind.i64.wrap (20 - (S.length : Int) - 1) = (gk : Int) := by rw [IntKind.wrap_i64]; omega
    have e20 : 20 - S.length = gk + 1 := by omega
    rw [e20] at hg
    obtain ⟨c0, hc0⟩ := row_cell (i := gk) hg (by simp; omega)
    have hf0 := blk_frozen hg gk
    have hgk : (gk : Int) < 20 := by omega
    have hg0 : (0 : Int) ≤ (gk : Int) := by omega
    have hum : IntKind.u64.wrap (48 + (u : Int) % 10) = 48 + (u : Int) % 10 := by rw [IntKind.wrap_u64]; omega
    have hub : IntKind.u8.wrap (48 + (u : Int) % 10) = 48 + (u : Int) % 10 := by simp [IntKind.wrap, IntKind.bits, IntKind.signed]; omega
    have hx : (48 + (u : Int) % 10) = ((48 + u % 10 : Nat) : Int) := by push_cast; rfl
    have hst := row_set hg gk (.int .u8 ((48 + u % 10 : Nat) : Int))
    rw [dig_set, ← hx] at hst
    have hBs : Below w.heap.size w (wr.setCell ⟨w.heap.size, gk, none⟩ (.int .u8 (48 + (u : Int) % 10))) := hB.setCell (p := ⟨w.heap.size, gk, none⟩) (Nat.le_refl _) _
    have HST := Lib.hid hst; have HBS := Lib.hid hBs; have HT := Lib.hid hT
    clear hst hBs hT hg hB hx
    have hal : Tryd.prog.arrayLen 164 = 20 := by kernel_rfl
    have hgk20 : (gk : Int) ≤ 20 := by omega
    by_cases hu10 : u < 10
    · have hq : (u : Int) / 10 = 0 := by omega
      have hT1 : digL 19 n = (48 + u % 10) :: S := by
        rw [HT.out]
        cases gk with
        | zero => rfl
        | succ k => rw [digL, if_pos hu10, show u % 10 = u by omega]; rfl
      have HT1 := Lib.hid hT1; clear hT1
      have hlen : (((48 + u % 10) :: S).map fun x => UInt8.ofNat x).length = 20 - gk := by simp; omega
      have hcv := run_convert_bytes_back (P := Tryd.prog) (wr.setCell ⟨w.heap.size, gk, none⟩ (.int .u8 (48 + (u : Int) % 10))) 143 9 5 ⟨w.heap.size, gk, none⟩ (20 - gk) (((48 + u % 10) :: S).map fun x => UInt8.ofNat x) Tryd.underlying143 Tryd.underlying5 Tryd.underlying9 (fun j hj => by
        rw [add_off, blk_cell HST.out]
        have hj' : j < ((48 + u % 10) :: S).length := by simpa using hj
        have hx : ((48 + u % 10) :: S)[j] < 256 := by
          rcases List.mem_cons.1 (List.getElem_mem hj') with h | h
          · rw [h]; omega
          · exact hS2 _ h
        have e1 : (List.replicate gk (Value.int .u8 0) ++ byteC ((48 + u % 10) :: S)).toArray[gk + j]? = some (.int .u8 ((((48 + u % 10) :: S)[j] : Nat) : Int)) := by
          rw [List.getElem?_toArray, List.getElem?_append_right (by simp)]
          simp only [List.length_replicate, Nat.add_sub_cancel_left, byteC, List.getElem?_map]
          rw [List.getElem?_eq_getElem hj']; rfl
        rw [e1]
        simp only [List.getElem_map]
        rw [UInt8.toNat_ofNat', Nat.mod_eq_of_lt hx])
      rw [hlen, ← HT1.out] at hcv
      have HT1' := Lib.hid HT1
      go_wp2_with fail
      go_returns
      exact ⟨_, rfl, rfl, HBS.out⟩
    · have hq : ¬ ((u : Int) / 10 = 0) := by omega
      obtain ⟨k, rfl⟩ : ∃ k, gk = k + 1 := by
        cases gk with
        | zero => simp at hu; omega
        | succ k => exact ⟨k, rfl⟩
      have hT2 : digL 19 n = digL k (u / 10) ++ (48 + u % 10) :: S := by
        rw [HT.out, digL, if_neg hu10, List.append_assoc]; rfl
      have HT2 := Lib.hid hT2; clear hT2
      have HU := Lib.hid hu; clear hu
      go_wp2_with fail
      go_roundg k
      case measure => omega
      case rel =>
        show DigI _ _ _ _ _ _ _
        refine ⟨(48 + u % 10) :: S, u / 10, by simp; omega, by simp; omega, by first | rfl | (push_cast; rfl), ?_, by omega, ?_, HT2.out, ?_, HBS.out⟩
        · have := HU.out
          rw [Nat.pow_succ] at this
          omega
        · intro x hx
          rcases List.mem_cons.1 hx with h | h
          · rw [h]; omega
          · exact hS2 x h
        · have := HST.out
          rw [show 20 - ((48 + u % 10) :: S).length = k + 1 by simp; omega]
          exact this
end Go.Proofs.YtnegblckbomgdaaDoor.Ht
end
