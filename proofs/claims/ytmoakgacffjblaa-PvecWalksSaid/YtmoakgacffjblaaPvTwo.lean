/- Going through a node's things. -/
import Derived.Test.YtmoakgacffjblaaPvOne
import Derived.RangeFuncNested
import Derived.RangeFuncBound
import Derived.RangeFuncCalls
import Derived.RangeFuncLeaves
import Derived.Shelf.Abstract
import Derived.Shelf.RegionOpen
import Derived.WalkKit
import Derived.OwnWalkIn
import Derived.TacticsInMore
import Derived.LoopNIn
import Derived.LoopIn
import Derived.Maps.AppendAt
import Derived.RangeFuncWrites
import Derived.RangeFuncBox
import Derived.Test.YtmoakgacffjblaaPPvecDoesx1
import Derived.Deep.RegionHeld3
import Derived.Deep.LoopGhost
set_option linter.unusedVariables false
set_option linter.unusedSimpArgs false
section
namespace Go.Proofs.Ytmoakgacffjblaa.Pv
open Go Go.RowKit Go.Shelf Go.Proofs.Ytmoakgacffjblaa.Mem Go.Proofs.YtmoakgacffjblaaW.PrintWords

attribute [local go_sem] Oper.semAt_some

theorem room_of_none {F : Fence} (hd : F.depth = none) (k : Nat) : F.room k := fun d h => by rw [hd] at h; cases h
theorem RoundIn.anyDepth {F : Fence} (hd : F.depth = none) {m m' : Nat} {P : Program} {l : Nat} {f : FuncId} {tmps : Array Value} {assign body : Code} {w : World} {R : Ending → World → Prop}
    (h : RoundIn F m P l f tmps assign body w R) : RoundIn F m' P l f tmps assign body w R := ⟨h.1, fun c cs _ => h.2 c cs (room_of_none hd _)⟩
theorem YieldAt.anyDepth {F : Fence} (hd : F.depth = none) {m : Nat} (m' : Nat) {P : Program} {l : Nat} {args : Array Value} {W : World} {R : Ending → World → Prop} (h : YieldAt F m P l args W R) : YieldAt F m' P l args W R := by
  obtain ⟨fn, tmps, assign, body, hy, hR⟩ := h
  exact ⟨fn, tmps, assign, body, hy, RoundIn.anyDepth hd hR⟩

/-- things with their places, from a place on -/
def idx : Nat → List Int → List (Int × Int)
  | _, [] => []
  | a, x :: xs => ((a : Int), x) :: idx (a + 1) xs
theorem idx_append (a : Nat) (xs ys : List Int) : idx a (xs ++ ys) = idx a xs ++ idx (a + xs.length) ys := by
  induction xs generalizing a with
  | nil => rfl
  | cons x xs ih => show _ :: idx (a + 1) (xs ++ ys) = _ :: (idx (a + 1) xs ++ _); rw [ih]; congr 3; simp; omega
theorem idx_length (a : Nat) (xs : List Int) : (idx a xs).length = xs.length := by
  induction xs generalizing a with
  | nil => rfl
  | cons x xs ih => show (idx (a + 1) xs).length + 1 = _; rw [ih]; rfl
theorem idx_snoc (a : Nat) (xs : List Int) (x : Int) : idx a (xs ++ [x]) = idx a xs ++ [(((a + xs.length : Nat) : Int), x)] := idx_append a xs [x]

/-- the blocks of K lie as they lay -/
def Kept (K : Nat → Prop) (w w' : World) : Prop := ∀ b, K b → w'.heap[b]? = w.heap[b]?
theorem Kept.refl (K : Nat → Prop) (w : World) : Kept K w w := fun _ _ => rfl
theorem Kept.trans {K : Nat → Prop} {a b c : World} (h : Kept K a b) (k : Kept K b c) : Kept K a c := fun x hx => (k x hx).trans (h x hx)

/-- what a round owes -/
def Rounds (K : Nat → Prop) (l N : Nat) (J Jx : List (Int × Int) → World → Prop) : Prop := ∀ m pre (x : Int × Int) W, J pre W → pre.length < N → YieldAt Fence.wide m Try.prog l #[.int .i64 x.1, .int .i64 x.2] W fun e W' =>
  (e = .returned (.bool true) ∧ J (pre ++ [x]) W' ∧ Kept K W W') ∨ (e = .returned (.bool false) ∧ Jx (pre ++ [x]) W')

/-- what going through things comes to -/
def Gone (K : Nat → Prop) (J Jx : List (Int × Int) → World → Prop) (pre zs : List (Int × Int)) (W : World) (e : Ending) (W' : World) : Prop :=
  (e = .returned (.bool true) ∧ J (pre ++ zs) W' ∧ Kept K W W') ∨ (e = .returned (.bool false) ∧ ∃ q, q <+: zs ∧ Jx (pre ++ q) W')

theorem NRep.old {K : Nat → Prop} {w w' : World} (hb : Kept K w w') {d : Nat} {p : Option Addr} {xs : List Int} (h : NRep K w d p xs) : NRep K w' d p xs := NRep.keep (fun _ h => h) (fun b hk _ => hb b hk) h
theorem SlV.old {K : Nat → Prop} {w w' : World} {v : Value} {xs : List Value} (hb : Kept K w w') (h : SlV K w v xs) : SlV K w' v xs := h.keep fun b hk _ => hb b hk

set_option maxRecDepth 100000 in
set_option maxHeartbeats 4000000 in
theorem each_leaf (K : Nat → Prop) (l N : Nat) (J Jx : List (Int × Int) → World → Prop) (hY : Rounds K l N J Jx) (n : Nat) (p : Option Addr) (xs : List Int) (from' : Nat) (pre : List (Int × Int)) (W : World)
    (hN : NRep K W 1 p xs) (hJ : J pre W) (hlen : pre.length + xs.length ≤ N) (hf : from' ≤ 1000000) :
    CallsIn Fence.wide n Try.prog 24 #[.pointer p, .int .i64 1, .int .i64 (from' : Int), .func (.yield l) #[] #[]] W (Gone K J Jx pre (idx from' xs) W) := by
  obtain ⟨g, s, rfl, hKg, hg, hs, hl⟩ := hN
  obtain ⟨A, m, c, rfl⟩ := hs.form
  have hm : m = 32 := by have := hs.len; simpa [hl] using this
  subst hm
  have hc1 := blk_cell hg 1
  simp at hc1
  have HS := Lib.hid hs; clear hs
  have HY := Lib.hid hY; clear hY
  have HL := Lib.hid hl; clear hl hg
  refine callsIn_of_wp Try.func24 rfl trivial ?_ rfl
  simp only [Try.ntmps24, List.size_toArray, List.length_cons, List.length_nil, Nat.reduceAdd, Nat.reduceSub, Array.replicate_succ, Array.replicate_zero, List.push_toArray, List.append_toArray, List.nil_append, List.cons_append]
  gi_wp2
  gi_loopw [20] (fun i wr => ∃ k : Nat, i = .int .i64 (k : Int) ∧ k ≤ 32 ∧ Hid (J (pre ++ idx from' (xs.take k)) wr) ∧ Kept K W wr) (fun i _ => 32 - (intOf i).toNat)
  case atStart => exact ⟨0, rfl, by omega, Lib.hid (by simpa [idx] using hJ), Kept.refl _ _⟩
  case round =>
    obtain ⟨k, rfl, hk, hJk, hB⟩ := hrel
    by_cases hk32 : k = 32
    · subst hk32
      gi_wp2
      go_ret
      refine .inl ⟨rfl, ?_, hB⟩
      have := hJk.out
      rwa [List.take_of_length_le (by rw [HL.out]; exact Nat.le_refl _)] at this
    · have hk31 : k < 32 := by omega
      obtain ⟨x, hx⟩ : ∃ x, xs[k]? = some x := ⟨_, List.getElem?_eq_getElem (by rw [HL.out]; exact hk31)⟩
      obtain ⟨ad, rfl, hcell⟩ := (SlV.old hB HS.out).addr (by have := HL.out; simp; omega)
      have hcx : wr.cell? (ad.add k) = some (.int .i64 x) := hcell k _ (by simp [hx])
      have htk : idx from' (xs.take (k + 1)) = idx from' (xs.take k) ++ [((from' : Int) + (k : Int), x)] := by
        rw [List.take_add_one, hx, Option.toList_some, idx_snoc, List.length_take, HL.out, Nat.min_eq_left hk]; push_cast; rfl
      have hlk : (pre ++ idx from' (xs.take k)).length < N := by rw [List.length_append, idx_length, List.length_take, HL.out, Nat.min_eq_left hk]; have := HL.out; omega
      have hpx : pre ++ idx from' (xs.take k) ++ [((from' : Int) + (k : Int), x)] = pre ++ idx from' (xs.take (k + 1)) := by rw [htk, List.append_assoc]
      have hpf : idx from' (xs.take (k + 1)) <+: idx from' xs := ⟨idx (from' + (xs.take (k + 1)).length) (xs.drop (k + 1)), by rw [← idx_append, List.take_append_drop]⟩
      obtain ⟨fn, tmps, assign, body, hy, hR⟩ := HY.out (n - 1) _ ((from' : Int) + (k : Int), x) wr hJk.out hlk
      dsimp only at hy
      have HR := Lib.hid hR; clear hR
      have HPX := Lib.hid hpx; clear hpx htk hlk hcell
      have HPF := Lib.hid hpf; clear hpf hx
      gi_wp2
      refine ⟨fun h => (Bool.false_ne_true h).elim, HR.out.mono ?_⟩
      rintro e W3 (⟨rfl, hJ3, hk3⟩ | ⟨rfl, hJx3⟩)
      · have HJ3 := Lib.hid hJ3; clear hJ3
        gi_wp2
        go_roundw
        case rel => exact ⟨k + 1, by push_cast; rfl, by omega, Lib.hid (by rw [← HPX.out]; exact HJ3.out), hB.trans hk3⟩
        case measure => simp [intOf]; omega
      · have HJ3 := Lib.hid hJx3; clear hJx3
        gi_wp2
        go_ret
        exact .inr ⟨rfl, _, HPF.out, by rw [← HPX.out]; exact HJ3.out⟩

theorem take_flat {B : Nat} {yss : List (List Int)} (h : ∀ (i : Nat) ys, yss[i]? = some ys → i + 1 < yss.length → ys.length = B) : ∀ k, k < yss.length → (yss.take k).flatten.length = k * B := by
  intro k
  induction k with
  | zero => intro _; simp
  | succ k ih =>
    intro hk
    have hy : yss[k]? = some (yss[k]'(by omega)) := List.getElem?_eq_getElem (by omega)
    rw [List.take_add_one, hy, Option.toList_some, List.flatten_append, List.length_append, ih (by omega)]
    have := h k _ hy (by omega)
    simp only [List.flatten_cons, List.flatten_nil, List.append_nil, this, Nat.succ_mul]

theorem wrap_small (a : Int) (h0 : 0 ≤ a) (h1 : a ≤ 1000000000) : wrap64 a = a := by unfold wrap64; omega
theorem place_val (f k d : Nat) (h : f + k * 32 ^ (d + 1) ≤ 1000000) : wrap64 ((f : Int) + wrap64 ((k : Int) * 2 ^ (5 * (d + 1)))) = ((f + k * 32 ^ (d + 1) : Nat) : Int) := by
  have e : (2 : Int) ^ (5 * (d + 1)) = ((32 ^ (d + 1) : Nat) : Int) := by
    rw [show (32 : Nat) ^ (d + 1) = 2 ^ (5 * (d + 1)) by rw [Nat.pow_mul]]; push_cast; rfl
  rw [e, ← Int.natCast_mul]
  generalize k * 32 ^ (d + 1) = P at *
  rw [wrap_small (P : Int) (by omega) (by omega), wrap_small _ (by omega) (by omega)]
  push_cast; rfl

/-- what each comes to at a level -/
def EachP (K : Nat → Prop) (l N : Nat) (J Jx : List (Int × Int) → World → Prop) (d : Nat) : Prop :=
  ∀ (n : Nat) (L : Int) (p : Option Addr) (xs : List Int) (from' : Nat) (F : Int) (pre : List (Int × Int)) (W : World), L = (d : Int) + 1 → F = (from' : Int) → NRep K W (d + 1) p xs → J pre W → pre.length + xs.length ≤ N → from' + xs.length ≤ 1000000 →
    CallsIn Fence.wide n Try.prog 24 #[.pointer p, .int .i64 L, .int .i64 F, .func (.yield l) #[] #[]] W (Gone K J Jx pre (idx from' xs) W)

set_option maxRecDepth 100000 in
set_option maxHeartbeats 4000000 in
theorem each_inner (K : Nat → Prop) (l N : Nat) (J Jx : List (Int × Int) → World → Prop) (d : Nat) (hd : d ≤ 9) (ih : EachP K l N J Jx d) : EachP K l N J Jx (d + 1) := by
  intro n L p xs from' F pre W hL hF hN hJ hlen hf
  subst hL hF
  have hN2 : NRep K W (d + 2) p xs := hN
  clear hN
  obtain ⟨g, s, ps, yss, rfl, hKg, hg, hs, h4, h5, rfl, h6, h7, h8⟩ := hN2
  have hu := kids_uni h4 h5 h8
  obtain ⟨A, m, c, rfl⟩ := hs.form
  have hm : m = ps.length := by have := hs.len; simpa using this
  have hc0 := blk_cell hg 0
  simp at hc0
  obtain ⟨ad, rfl, _⟩ := hs.addr (by simp; omega)
  have HS := Lib.hid hs; clear hs
  have H5 := Lib.hid h5; clear h5 hg
  have HU := Lib.hid hu; clear hu
  have HI := Lib.hid ih; clear ih
  have H8 := Lib.hid h8; clear h8
  have HM := Lib.hid hm; clear hm
  have hm32 : m ≤ 32 := by have := HM.out; omega
  have hlev : ((((d + 1 : Nat) : Int) + 1) == 1) = false := beq_false_of_ne (by omega)
  refine callsIn_of_wp Try.func24 rfl trivial ?_ rfl
  simp only [Try.ntmps24, List.size_toArray, List.length_cons, List.length_nil, Nat.reduceAdd, Nat.reduceSub, Array.replicate_succ, Array.replicate_zero, List.push_toArray, List.append_toArray, List.nil_append, List.cons_append]
  gi_wp2
  gi_loopw [38] (fun i wr => ∃ k : Nat, i = .int .i64 (k : Int) ∧ k ≤ m ∧ Hid (J (pre ++ idx from' (yss.take k).flatten) wr) ∧ Kept K W wr) (fun i _ => m - (intOf i).toNat)
  case atStart => exact ⟨0, rfl, by omega, Lib.hid (by simpa [idx] using hJ), Kept.refl _ _⟩
  case round =>
    obtain ⟨k, rfl, hk, hJk, hB⟩ := hrel
    by_cases hk32 : k = m
    · subst hk32
      gi_wp2
      go_ret
      refine .inl ⟨rfl, ?_, hB⟩
      have := hJk.out
      rwa [List.take_of_length_le (by have := HM.out; omega)] at this
    · have hk31 : k < m := by omega
      have hkm : (k : Int) < (m : Int) := by omega
      obtain ⟨o, ho⟩ : ∃ x, ps[k]? = some x := ⟨_, List.getElem?_eq_getElem (by have := HM.out; omega)⟩
      obtain ⟨ys, hy⟩ : ∃ x, yss[k]? = some x := ⟨_, List.getElem?_eq_getElem (by have := HM.out; omega)⟩
      have hcell : ∀ (j : Nat) (u : Value), (ptrs ps)[j]? = some u → wr.cell? (ad.add j) = some u := by
        obtain ⟨ad', he, hc⟩ := (SlV.old hB HS.out).addr (by have := HM.out; simp; omega)
        injection he with he
        exact he ▸ hc
      have hcx : wr.cell? (ad.add k) = some (.pointer o) := hcell k _ (by simp [ho])
      clear hcell
      have hkl : k < yss.length := by have := HM.out; omega
      have hfl := take_flat H8.out k hkl
      have htk : (yss.take (k + 1)).flatten = (yss.take k).flatten ++ ys := by rw [List.take_add_one, hy, Option.toList_some, List.flatten_append]; simp
      have hsp : yss.flatten = (yss.take (k + 1)).flatten ++ (yss.drop (k + 1)).flatten := by rw [← List.flatten_append, List.take_append_drop]
      have hlen2 := congrArg List.length hsp
      rw [List.length_append, htk, List.length_append, hfl] at hlen2
      obtain ⟨P, hP⟩ : ∃ P, P = k * 32 ^ (d + 1) := ⟨_, rfl⟩
      rw [← hP] at hlen2 hfl
      have hfP : from' + P ≤ 1000000 := by omega
      have HVAL : Hid (wrap64 ((from' : Int) + wrap64 ((k : Int) * 2 ^ (5 * (d + 1)))) = ((from' + P : Nat) : Int)) := by
        have := place_val from' k d (by rw [← hP]; exact hfP)
        rw [← hP] at this
        exact this
      have hlq : (pre ++ idx from' (yss.take k).flatten).length + ys.length ≤ N := by rw [List.length_append, idx_length, hfl]; omega
      have hfq : from' + P + ys.length ≤ 1000000 := by omega
      have hid : idx from' (yss.take (k + 1)).flatten = idx from' (yss.take k).flatten ++ idx (from' + P) ys := by rw [htk, idx_append, hfl]
      have hids : idx from' yss.flatten = idx from' (yss.take (k + 1)).flatten ++ idx (from' + (yss.take (k + 1)).flatten.length) (yss.drop (k + 1)).flatten := by rw [← idx_append, ← hsp]
      have hcall := HI.out (n - 1) ((d : Int) + 1) o ys (from' + P) _ (pre ++ idx from' (yss.take k).flatten) wr rfl HVAL.out (NRep.old hB (H5.out k o ys ho hy)) hJk.out hlq hfq
      have HC := Lib.hid hcall; clear hcall HVAL hlq hfq
      have HID := Lib.hid hid; have HIDS := Lib.hid hids
      clear hid hids hsp htk hlen2 hfl ho hy hP hfP
      gi_wp2_with fail
      refine ⟨trivial, fun h => (Bool.false_ne_true h).elim, HC.out.mono ?_⟩
      rintro e W3 (⟨rfl, hJ3, hk3⟩ | ⟨rfl, q, hq, hJx3⟩)
      · have HJ3 := Lib.hid hJ3; clear hJ3
        gi_wp2
        go_roundw
        case rel =>
          have hnew : Hid (J (pre ++ idx from' (yss.take (k + 1)).flatten) W3) := Lib.hid (by rw [HID.out, ← List.append_assoc]; exact HJ3.out)
          first
            | exact ⟨k + 1, by push_cast; rfl, by omega, hnew, hB.trans hk3⟩
            | ((repeat apply Exists.intro); exact ⟨⟨k + 1, rfl, by omega, hnew, hB.trans hk3⟩, rfl⟩)
        case measure => simp [intOf]; omega
      · have HJ3 := Lib.hid hJx3; clear hJx3
        have HQ := Lib.hid hq; clear hq
        gi_wp2
        go_ret
        obtain ⟨r, hr⟩ := HQ.out
        exact .inr ⟨rfl, idx from' (yss.take k).flatten ++ q, ⟨r ++ idx (from' + (yss.take (k + 1)).flatten.length) (yss.drop (k + 1)).flatten, by rw [HIDS.out, HID.out, ← hr]; simp⟩, by rw [← List.append_assoc]; exact HJ3.out⟩

theorem each_c (K : Nat → Prop) (l N : Nat) (J Jx : List (Int × Int) → World → Prop) (hY : Rounds K l N J Jx) (d : Nat) (hd : d ≤ 10) : EachP K l N J Jx d := by
  induction d with
  | zero =>
    intro n L p xs from' F pre W hL hF hN hJ hlen hf
    obtain rfl : L = 1 := by omega
    subst hF
    exact each_leaf K l N J Jx hY n p xs from' pre W hN hJ hlen (by omega)
  | succ d ih => exact each_inner K l N J Jx d (by omega) (ih (by omega))
end Go.Proofs.Ytmoakgacffjblaa.Pv
end

section
namespace Go.Proofs.Ytmoakgacffjblaa.Pv
open Go Go.RowKit Go.Shelf Go.Proofs.Ytmoakgacffjblaa.Mem Go.Proofs.YtmoakgacffjblaaW.PrintWords

attribute [local go_sem] Oper.semAt_some

/-- what the function that All gives comes to -/
def AllP (J Jx : List (Int × Int) → World → Prop) (zs : List (Int × Int)) (e : Ending) (W' : World) : Prop :=
  (∃ v, e = .returned v) ∧ ((∃ ys, ys = zs ∧ J ys W') ∨ (∃ pre, pre <+: zs ∧ Jx pre W'))

theorem VF.old {K : Nat → Prop} {w w' : World} {n L : Int} {p : Option Addr} {t : Value} {xs ys : List Int} (hb : Kept K w w') (h : VF K w n L p t xs ys) : VF K w' n L p t xs ys := h.keep (fun _ h => h) fun b hk _ => hb b hk

set_option maxRecDepth 100000 in
set_option maxHeartbeats 4000000 in
theorem all1_none (K : Nat → Prop) (l Bn B n m c g : Nat) (n' L : Int) (A : Option Addr) (xs ys : List Int) (J Jx : List (Int × Int) → World → Prop) (hA : AbidesFrom B J) (hY : Rounds K l (xs ++ ys).length J Jx) (W : World) (hlt : ∀ b, K b → b < W.heap.size)
    (hKB : K Bn) (hbox : W.heap[Bn]? = some (.cells #[.int .i64 n', .int .i64 L, .pointer none, .slice A m c] VT (0, 0))) (hV : VF K W n' L none (.slice A m c) xs ys) (h0 : J [] W) (hx : xs = []) :
    CallsIn Fence.wide n Try.prog 23 #[.func (.yield l) #[] #[], .pointer (some ⟨Bn, 0, none⟩)] W (AllP J Jx (idx 0 (xs ++ ys))) := by
  obtain ⟨hnum, htr, hs, hfew, hall⟩ := hV
  have hm : m = ys.length := by have := hs.len; simpa using this
  have hmn : (m : Int) ≤ n' := by omega
  have hnb : n' ≤ 1000000 := by omega
  have hm32 : m ≤ 32 := by omega
  have hI := fun W => inner_c n' L none A m c W hmn (by omega)
  have HI := Lib.hid hI; clear hI
  have HA := Lib.hid hA; clear hA
  have HY := Lib.hid hY; clear hY
  have HNUM := Lib.hid hnum; clear hnum
  have HS := Lib.hid hs; clear hs
  have HM := Lib.hid hm; clear hm
  obtain ⟨⟨k0, k1, k2, k3⟩, f0, f1, f2, f3⟩ := box4 hbox
  have HBOX := Lib.hid hbox; clear hbox
  have HLT : Hid (∀ b, K b → ∀ wr, Kept K W wr → b < wr.heap.size) := Lib.hid fun b hb wr hk => by
    have h1 : wr.heap[b]? = some (W.heap[b]'(hlt b hb)) := (hk b hb).trans (Array.getElem?_eq_getElem _)
    exact blk_lt h1
  clear hlt
  have HJ1 : Hid (J (idx 0 xs) W) := Lib.hid (by rw [hx]; exact h0)
  clear h0 hx htr
  have HB1 := Lib.hid (Kept.refl K W)
  refine callsIn_of_wp Try.func23 rfl trivial ?_ rfl
  simp only [Try.ntmps23, List.size_toArray, List.length_cons, List.length_nil, Nat.reduceAdd, Nat.reduceSub, Array.replicate_succ, Array.replicate_zero, List.push_toArray, List.append_toArray, List.nil_append, List.cons_append]
  gi_wp2
  refine ⟨trivial, ?_⟩
  gi_wp2
  gi_loopw [20] (fun i wr => ∃ k : Nat, i = .int .i64 (k : Int) ∧ k ≤ m ∧ Hid (J (idx 0 xs ++ idx xs.length (ys.take k)) wr) ∧ Kept K W wr) (fun i _ => m - (intOf i).toNat)
  case atStart => exact ⟨0, rfl, by omega, Lib.hid (by simpa [idx] using HJ1.out), HB1.out⟩
  case round =>
    obtain ⟨k, rfl, hk, hJk, hB⟩ := hrel
    have BK : wr.heap[Bn]? = some (.cells #[.int .i64 n', .int .i64 L, .pointer none, .slice A m c] VT (0, 0)) := (hB Bn hKB).trans HBOX.out
    obtain ⟨⟨k0, k1, k2, k3⟩, f0, f1, f2, f3⟩ := box4 BK
    have HBK := Lib.hid BK; clear BK
    by_cases hk32 : k = m
    · subst hk32
      gi_wp2
      go_end0
      refine ⟨⟨_, rfl⟩, .inl ⟨_, rfl, ?_⟩⟩
      have := hJk.out
      rw [List.take_of_length_le (by have := HM.out; omega)] at this
      rw [idx_append, Nat.zero_add]; exact this
    · have hk31 : k < m := by omega
      obtain ⟨x, hx⟩ : ∃ x, ys[k]? = some x := ⟨_, List.getElem?_eq_getElem (by have := HM.out; omega)⟩
      have hcell : ∃ ad, A = some ad ∧ ∀ (j : Nat) (u : Value), (ints ys)[j]? = some u → wr.cell? (ad.add j) = some u := (SlV.old hB HS.out).addr (by have := HM.out; simp; omega)
      obtain ⟨ad, rfl, hcell⟩ := hcell
      have hcx : wr.cell? (ad.add k) = some (.int .i64 x) := hcell k _ (by simp [hx])
      have hkm : (k : Int) < (m : Int) := by omega
      have hix : n' - (m : Int) + (k : Int) = ((xs.length + k : Nat) : Int) := by have := HNUM.out; have := HM.out; push_cast; omega
      have htk : idx xs.length (ys.take (k + 1)) = idx xs.length (ys.take k) ++ [(n' - (m : Int) + (k : Int), x)] := by
        rw [List.take_add_one, hx, Option.toList_some, idx_snoc, List.length_take, Nat.min_eq_left (by have := HM.out; omega), hix]
      have hlk : (idx 0 xs ++ idx xs.length (ys.take k)).length < (xs ++ ys).length := by rw [List.length_append, List.length_append, idx_length, idx_length, List.length_take]; have := HM.out; omega
      have hpx : idx 0 xs ++ idx xs.length (ys.take k) ++ [(n' - (m : Int) + (k : Int), x)] = idx 0 xs ++ idx xs.length (ys.take (k + 1)) := by rw [htk, List.append_assoc]
      have hpf : idx 0 xs ++ idx xs.length (ys.take (k + 1)) <+: idx 0 (xs ++ ys) := ⟨idx (xs.length + (ys.take (k + 1)).length) (ys.drop (k + 1)), by rw [idx_append 0 xs ys, Nat.zero_add, List.append_assoc, ← idx_append, List.take_append_drop]⟩
      have hJa : J (idx 0 xs ++ idx xs.length (ys.take k)) (wr.alloc (.cells #[.int .i64 n', .int .i64 L, .pointer none, .slice (some ad) m c] VT)) := HA.out _ _ _ none hJk.out (World.grownBy_alloc wr _ none) (fun r e => by cases e)
      obtain ⟨fn, tmps, assign, body, hy, hR⟩ := HY.out (n - 1) _ (n' - (m : Int) + (k : Int), x) _ hJa hlk
      dsimp only at hy
      have hBa : Kept K wr (wr.alloc (.cells #[.int .i64 n', .int .i64 L, .pointer none, .slice (some ad) m c] VT)) := fun b hb => by
        have hlt : b < wr.heap.size := HLT.out b hb wr hB
        exact (Below.heap_alloc wr _ b hlt)
      have HR := Lib.hid hR; clear hR
      have HPX := Lib.hid hpx; clear hpx htk hlk hcell hJa hix
      have HPF := Lib.hid hpf; clear hpf hx
      have HBA := Lib.hid hBa; clear hBa
      have hnm : n' - (m : Int) + (k : Int) ≤ 2000000 ∧ 0 ≤ n' - (m : Int) := by have := HNUM.out; have := HM.out; omega
      gi_wp2_with fail
      refine ⟨trivial, fun h => (Bool.false_ne_true h).elim, (callsIn_wide.2 (HI.out wr)).mono ?_⟩
      rintro e w1 ⟨rfl, rfl⟩
      gi_wp2_with fail
      refine ⟨fun h => (Bool.false_ne_true h).elim, HR.out.mono ?_⟩
      rintro e W3 (⟨rfl, hJ3, hk3⟩ | ⟨rfl, hJx3⟩)
      · have HJ3 := Lib.hid hJ3; clear hJ3
        gi_wp2
        go_roundw
        case rel =>
          have hnew : Hid (J (idx 0 xs ++ idx xs.length (ys.take (k + 1))) W3) := Lib.hid (by rw [← HPX.out]; exact HJ3.out)
          exact ⟨k + 1, rfl, hk31, hnew, (hB.trans HBA.out).trans hk3⟩
        case measure => simp [intOf]; omega
      · have HJ3 := Lib.hid hJx3; clear hJx3
        gi_wp2
        refine bodyPost_ret (results_none rfl _ _ _) rfl ?_
        exact ⟨⟨_, rfl⟩, .inr ⟨_, HPF.out, by rw [← HPX.out]; exact HJ3.out⟩⟩

set_option maxRecDepth 100000 in
set_option maxHeartbeats 4000000 in
theorem all1_some (K : Nat → Prop) (l Bn B n m c g : Nat) (n' L : Int) (A : Option Addr) (xs ys : List Int) (J Jx : List (Int × Int) → World → Prop) (hA : AbidesFrom B J) (hY : Rounds K l (xs ++ ys).length J Jx) (W : World) (hlt : ∀ b, K b → b < W.heap.size)
    (hKB : K Bn) (hbox : W.heap[Bn]? = some (.cells #[.int .i64 n', .int .i64 L, .pointer (some ⟨g, 0, none⟩), .slice A m c] VT (0, 0))) (hV : VF K W n' L (some ⟨g, 0, none⟩) (.slice A m c) xs ys) (h0 : J [] W) (d : Nat) (hd : d ≤ 10) (hL : L = (d : Int) + 1) (hN : NRep K W (d + 1) (some ⟨g, 0, none⟩) xs) :
    CallsIn Fence.wide n Try.prog 23 #[.func (.yield l) #[] #[], .pointer (some ⟨Bn, 0, none⟩)] W (AllP J Jx (idx 0 (xs ++ ys))) := by
  obtain ⟨hnum, htr, hs, hfew, hall⟩ := hV
  have hm : m = ys.length := by have := hs.len; simpa using this
  have hmn : (m : Int) ≤ n' := by omega
  have hnb : n' ≤ 1000000 := by omega
  have hm32 : m ≤ 32 := by omega
  have hI := fun W => inner_c n' L (some ⟨g, 0, none⟩) A m c W hmn (by omega)
  have HI := Lib.hid hI; clear hI
  have HA := Lib.hid hA; clear hA
  have HY := Lib.hid hY; clear hY
  have HNUM := Lib.hid hnum; clear hnum
  have HS := Lib.hid hs; clear hs
  have HM := Lib.hid hm; clear hm
  obtain ⟨⟨k0, k1, k2, k3⟩, f0, f1, f2, f3⟩ := box4 hbox
  have HBOX := Lib.hid hbox; clear hbox
  have HLT : Hid (∀ b, K b → ∀ wr, Kept K W wr → b < wr.heap.size) := Lib.hid fun b hb wr hk => by
    have h1 : wr.heap[b]? = some (W.heap[b]'(hlt b hb)) := (hk b hb).trans (Array.getElem?_eq_getElem _)
    exact blk_lt h1
  clear hlt
  have hE := each_c K l (xs ++ ys).length J Jx HY.out d hd (n - 1) L (some ⟨g, 0, none⟩) xs 0 0 [] W hL rfl hN h0 (by simp) (by omega)
  have HE := Lib.hid hE; clear hE htr hN h0 hL
  have hpq : Hid (idx 0 xs <+: idx 0 (xs ++ ys)) := Lib.hid ⟨_, (idx_append 0 xs ys).symm⟩
  refine callsIn_of_wp Try.func23 rfl trivial ?_ rfl
  simp only [Try.ntmps23, List.size_toArray, List.length_cons, List.length_nil, Nat.reduceAdd, Nat.reduceSub, Array.replicate_succ, Array.replicate_zero, List.push_toArray, List.append_toArray, List.nil_append, List.cons_append]
  gi_wp2_with fail
  refine ⟨trivial, fun h => (Bool.false_ne_true h).elim, HE.out.mono ?_⟩
  rintro e W1 (⟨rfl, hJ1, hB1⟩ | ⟨rfl, q, hq, hJx1⟩)
  case inr =>
    have HJ3 := Lib.hid hJx1; clear hJx1
    have HQ := Lib.hid hq; clear hq
    gi_wp2
    refine bodyPost_ret (results_none rfl _ _ _) rfl ?_
    exact ⟨⟨_, rfl⟩, .inr ⟨q, HQ.out.trans hpq.out, HJ3.out⟩⟩
  have HJ1 : Hid (J (idx 0 xs) W1) := Lib.hid hJ1
  clear hJ1
  have BK1 := (hB1 Bn hKB).trans HBOX.out
  obtain ⟨⟨k0, k1, k2, k3⟩, f0, f1, f2, f3⟩ := box4 BK1
  clear BK1
  have HB1 := Lib.hid hB1; clear hB1
  gi_wp2
  gi_loopw [20] (fun i wr => ∃ k : Nat, i = .int .i64 (k : Int) ∧ k ≤ m ∧ Hid (J (idx 0 xs ++ idx xs.length (ys.take k)) wr) ∧ Kept K W wr) (fun i _ => m - (intOf i).toNat)
  case atStart => exact ⟨0, rfl, by omega, Lib.hid (by simpa [idx] using HJ1.out), HB1.out⟩
  case round =>
    obtain ⟨k, rfl, hk, hJk, hB⟩ := hrel
    have BK : wr.heap[Bn]? = some (.cells #[.int .i64 n', .int .i64 L, .pointer (some ⟨g, 0, none⟩), .slice A m c] VT (0, 0)) := (hB Bn hKB).trans HBOX.out
    obtain ⟨⟨k0, k1, k2, k3⟩, f0, f1, f2, f3⟩ := box4 BK
    have HBK := Lib.hid BK; clear BK
    by_cases hk32 : k = m
    · subst hk32
      gi_wp2
      go_end0
      refine ⟨⟨_, rfl⟩, .inl ⟨_, rfl, ?_⟩⟩
      have := hJk.out
      rw [List.take_of_length_le (by have := HM.out; omega)] at this
      rw [idx_append, Nat.zero_add]; exact this
    · have hk31 : k < m := by omega
      obtain ⟨x, hx⟩ : ∃ x, ys[k]? = some x := ⟨_, List.getElem?_eq_getElem (by have := HM.out; omega)⟩
      have hcell : ∃ ad, A = some ad ∧ ∀ (j : Nat) (u : Value), (ints ys)[j]? = some u → wr.cell? (ad.add j) = some u := (SlV.old hB HS.out).addr (by have := HM.out; simp; omega)
      obtain ⟨ad, rfl, hcell⟩ := hcell
      have hcx : wr.cell? (ad.add k) = some (.int .i64 x) := hcell k _ (by simp [hx])
      have hkm : (k : Int) < (m : Int) := by omega
      have hix : n' - (m : Int) + (k : Int) = ((xs.length + k : Nat) : Int) := by have := HNUM.out; have := HM.out; push_cast; omega
      have htk : idx xs.length (ys.take (k + 1)) = idx xs.length (ys.take k) ++ [(n' - (m : Int) + (k : Int), x)] := by
        rw [List.take_add_one, hx, Option.toList_some, idx_snoc, List.length_take, Nat.min_eq_left (by have := HM.out; omega), hix]
      have hlk : (idx 0 xs ++ idx xs.length (ys.take k)).length < (xs ++ ys).length := by rw [List.length_append, List.length_append, idx_length, idx_length, List.length_take]; have := HM.out; omega
      have hpx : idx 0 xs ++ idx xs.length (ys.take k) ++ [(n' - (m : Int) + (k : Int), x)] = idx 0 xs ++ idx xs.length (ys.take (k + 1)) := by rw [htk, List.append_assoc]
      have hpf : idx 0 xs ++ idx xs.length (ys.take (k + 1)) <+: idx 0 (xs ++ ys) := ⟨idx (xs.length + (ys.take (k + 1)).length) (ys.drop (k + 1)), by rw [idx_append 0 xs ys, Nat.zero_add, List.append_assoc, ← idx_append, List.take_append_drop]⟩
      have hJa : J (idx 0 xs ++ idx xs.length (ys.take k)) (wr.alloc (.cells #[.int .i64 n', .int .i64 L, .pointer (some ⟨g, 0, none⟩), .slice (some ad) m c] VT)) := HA.out _ _ _ none hJk.out (World.grownBy_alloc wr _ none) (fun r e => by cases e)
      obtain ⟨fn, tmps, assign, body, hy, hR⟩ := HY.out (n - 1) _ (n' - (m : Int) + (k : Int), x) _ hJa hlk
      dsimp only at hy
      have hBa : Kept K wr (wr.alloc (.cells #[.int .i64 n', .int .i64 L, .pointer (some ⟨g, 0, none⟩), .slice (some ad) m c] VT)) := fun b hb => by
        have hlt : b < wr.heap.size := HLT.out b hb wr hB
        exact (Below.heap_alloc wr _ b hlt)
      have HR := Lib.hid hR; clear hR
      have HPX := Lib.hid hpx; clear hpx htk hlk hcell hJa hix
      have HPF := Lib.hid hpf; clear hpf hx
      have HBA := Lib.hid hBa; clear hBa
      have hnm : n' - (m : Int) + (k : Int) ≤ 2000000 ∧ 0 ≤ n' - (m : Int) := by have := HNUM.out; have := HM.out; omega
      gi_wp2_with fail
      refine ⟨trivial, fun h => (Bool.false_ne_true h).elim, (callsIn_wide.2 (HI.out wr)).mono ?_⟩
      rintro e w1 ⟨rfl, rfl⟩
      gi_wp2_with fail
      refine ⟨fun h => (Bool.false_ne_true h).elim, HR.out.mono ?_⟩
      rintro e W3 (⟨rfl, hJ3, hk3⟩ | ⟨rfl, hJx3⟩)
      · have HJ3 := Lib.hid hJ3; clear hJ3
        gi_wp2
        go_roundw
        case rel =>
          have hnew : Hid (J (idx 0 xs ++ idx xs.length (ys.take (k + 1))) W3) := Lib.hid (by rw [← HPX.out]; exact HJ3.out)
          exact ⟨k + 1, rfl, hk31, hnew, (hB.trans HBA.out).trans hk3⟩
        case measure => simp [intOf]; omega
      · have HJ3 := Lib.hid hJx3; clear hJx3
        gi_wp2
        refine bodyPost_ret (results_none rfl _ _ _) rfl ?_
        exact ⟨⟨_, rfl⟩, .inr ⟨_, HPF.out, by rw [← HPX.out]; exact HJ3.out⟩⟩
end Go.Proofs.Ytmoakgacffjblaa.Pv
end

section
namespace Go.Proofs.Ytmoakgacffjblaa.Pv
open Go Go.RowKit Go.Shelf Go.Proofs.Ytmoakgacffjblaa.Mem Go.Proofs.YtmoakgacffjblaaW.PrintWords

attribute [local go_sem] Oper.semAt_some

theorem all1_c (K : Nat → Prop) (l Bn B n m c : Nat) (n' L : Int) (p A : Option Addr) (xs ys : List Int) (J Jx : List (Int × Int) → World → Prop) (hA : AbidesFrom B J) (hY : Rounds K l (xs ++ ys).length J Jx) (W : World) (hlt : ∀ b, K b → b < W.heap.size)
    (hKB : K Bn) (hbox : W.heap[Bn]? = some (.cells #[.int .i64 n', .int .i64 L, .pointer p, .slice A m c] VT (0, 0))) (hV : VF K W n' L p (.slice A m c) xs ys) (h0 : J [] W) :
    CallsIn Fence.wide n Try.prog 23 #[.func (.yield l) #[] #[], .pointer (some ⟨Bn, 0, none⟩)] W (AllP J Jx (idx 0 (xs ++ ys))) := by
  rcases hV.trie with ⟨hx, hL, hp⟩ | ⟨d, g, hL, hp, hN, h32, hm⟩
  · subst hp
    exact all1_none K l Bn B n m c 0 n' L A xs ys J Jx hA hY W hlt hKB hbox hV h0 hx
  · subst hp
    have hd : d ≤ 10 := by
      have := hV.all
      rcases hm with rfl | hm
      · omega
      · have := lev_small hm (by omega); omega
    exact all1_some K l Bn B n m c g n' L A xs ys J Jx hA hY W hlt hKB hbox hV h0 d hd hL hN

set_option maxHeartbeats 1000000 in
theorem all_in (n' L : Int) (p A : Option Addr) (m c : Nat) (w : World) :
    Calls Try.prog 11 #[vec n' L p (.slice A m c)] w fun e w' => e = .returned (.func (.func 23) #[] #[.pointer (some ⟨w.heap.size, 0, none⟩)]) ∧ w' = w.alloc (.cells #[.int .i64 n', .int .i64 L, .pointer p, .slice A m c] VT) := by
  have hmf : ∀ (fn : Fn) (first cap : Array Value) (w : World), (Instr.makeFunc fn first cap).run Try.prog w = .ok (.func fn first cap) w := fun _ _ _ _ => rfl
  go_enter Try.func11, Try.ntmps11
  go_wp2
  go_ret
  exact ⟨rfl, rfl⟩

/-- WHAT All GIVES STOPS: all things with their places, or as many as were wanted. -/
theorem all_stops (K : Nat → Prop) (Bn m c n : Nat) (n' L : Int) (p A : Option Addr) (xs ys : List Int) (w : World) (hlt : ∀ b, K b → b < w.heap.size) (hKB : K Bn)
    (hbox : w.heap[Bn]? = some (.cells #[.int .i64 n', .int .i64 L, .pointer p, .slice A m c] VT (0, 0))) (hV : VF K w n' L p (.slice A m c) xs ys) :
    SeqStopsK Fence.wide n Try.prog 23 #[.pointer (some ⟨Bn, 0, none⟩)] (fun x : Int × Int => #[Value.int .i64 x.1, Value.int .i64 x.2]) (Kept K) (fun zs => zs = idx 0 (xs ++ ys)) (fun pre => pre <+: idx 0 (xs ++ ys)) (xs ++ ys).length w := fun l J Jx W hW hA _ hY h0 =>
  all1_c K l Bn W.heap.size n m c n' L p A xs ys J Jx hA (fun mm pre x W1 hj hl => YieldAt.anyDepth rfl mm (hY pre x W1 hj hl)) W (fun b hb => Nat.lt_of_lt_of_le (hlt b hb) hW.size) hKB ((hW.block Bn (hlt Bn hKB)).trans hbox) (hV.below hW) h0
end Go.Proofs.Ytmoakgacffjblaa.Pv
end

section
namespace Go.Proofs.Ytmoakgacffjblaa.Pv
open Go Go.RowKit Go.Shelf Go.Proofs.Ytmoakgacffjblaa.Mem Go.Proofs.YtmoakgacffjblaaW.PrintWords

attribute [local go_sem] Oper.semAt_some

/-- a row's block is no block of another type -/
theorem not_row4 {W : World} {B : Nat} {t e : TypeId} {cs : Array Value} (h : W.heap[B]? = some (.cells cs t (0, 0))) (hte : t ≠ e) {base size k : Nat} {v : Value} {xs : List Value} (hr : W.ownsRow base e size v k xs) : some B ≠ v.ownBlock := by
  rcases hr.2 with ⟨rfl, _⟩ | ⟨g, cap, cur, rfl, _, hgb, _⟩
  · simp [Value.ownBlock]
  · intro e'
    obtain rfl : B = g := by simpa [Value.ownBlock] using e'
    have := h.symm.trans hgb
    simp at this
    exact hte this.2

theorem idx_vals (a : Nat) (xs : List Int) : (idx a xs).map (fun x => Value.int .i64 x.2) = ints xs := by
  induction xs generalizing a with
  | nil => rfl
  | cons x xs ih => show _ :: (idx (a + 1) xs).map _ = _ :: _; rw [ih]

set_option maxRecDepth 100000 in
set_option maxHeartbeats 4000000 in
theorem list_f (K : Nat → Prop) (N : Nat) (L : Int) (p A : Option Addr) (m c : Nat) (xs ys : List Int) (w : World) (hV : VF K w (N : Int) L p (.slice A m c) xs ys) (hK : ∀ b, K b → b < w.heap.size) (n : Nat) (hn : 3 ≤ n) :
    CallsIn Fence.wide n Try.prog 12 #[vec (N : Int) L p (.slice A m c)] w fun e W' => ∃ v, e = .returned v ∧ W'.ownsRow w.heap.size 3 1 v (xs ++ ys).length (ints (xs ++ ys)) ∧ Below w.heap.size w W' := by
  have h1 : 1 ≤ n := by omega
  obtain ⟨i0, hi, hz0, hz1, hz2⟩ := info_parts info_int
  have hN : N = xs.length + ys.length := by have := hV.num; omega
  have hN6 : N ≤ 1000000 := by have := hV.all; omega
  have hmk : ∀ W, (Instr.makeSlice 24 (.int .i64 0) (.int .i64 (N : Int))).run Try.prog W = .ok (.slice (some ⟨W.heap.size, 0, none⟩) 0 N) (W.alloc (.cells (Array.replicate N (.int .i64 0)) 3)) := by
    intro W
    have := run_make (P := Try.prog) W 24 3 i0 (.int .i64 0) Try.underlying24 hi hz0 .i64 .i64 0 (N : Int) (by omega) (by omega) (by rw [hz2]; omega) (by omega)
    rw [hz1, Nat.mul_one, show Value.cells (.int .i64 0) = #[.int .i64 0] from rfl, madeCells_one] at this
    simpa using this
  have HN := Lib.hid hN; clear hN
  have HV := Lib.hid hV; clear hV
  have HK := Lib.hid hK; clear hK
  refine callsIn_of_wp_marks Try.func12 rfl trivial ?_ rfl
  simp only [Try.ntmps12, List.size_toArray, List.length_cons, List.length_nil, Nat.reduceAdd, Nat.reduceSub, Array.replicate_succ, Array.replicate_zero, List.push_toArray, List.append_toArray, List.nil_append, List.cons_append]
  gi_wp2_with fail
  refine ⟨trivial, (callsIn_wide.2 (all_in (N : Int) L p A m c _)).mono ?_⟩
  rintro e w' ⟨rfl, rfl⟩
  gi_wp2_with fail
  obtain ⟨W4, hW4⟩ : ∃ W4, ((((w.alloc (.cells #[.int .i64 (N : Int), .int .i64 L, .pointer p, .slice A m c] VT)).alloc (.cells (Array.replicate N (.int .i64 0)) 3)).alloc (.cells #[.slice (some ⟨w.heap.size + 1, 0, none⟩) 0 N] 24)).alloc (.cells #[.int .i64 (N : Int), .int .i64 L, .pointer p, .slice A m c] VT)) = W4 := ⟨_, rfl⟩
  have hs4 : W4.heap.size = w.heap.size + 1 + 1 + 1 + 1 := by rw [← hW4]; simp
  have hB4 : Below w.heap.size w W4 := by rw [← hW4]; go_grown
  have hbox4 : W4.heap[w.heap.size + 1 + 1 + 1]? = some (.cells #[.int .i64 (N : Int), .int .i64 L, .pointer p, .slice A m c] VT (0, 0)) := by rw [← hW4]; exact heap_k3 w _ _ _ _
  have hout4 : Boxed W4 (w.heap.size + 1 + 1) 24 (.slice (some ⟨w.heap.size + 1, 0, none⟩) 0 N) := by rw [← hW4]; exact blk_alloc (heap_k2 w _ _ _) _
  have hrow4 : W4.ownsRow w.heap.size 3 1 (.slice (some ⟨w.heap.size + 1, 0, none⟩) 0 N) 0 [] := by
    rw [← hW4]
    have h := World.ownsRow_made (base := w.heap.size) (e := 3) (size := 1) (w.alloc (.cells #[.int .i64 (N : Int), .int .i64 L, .pointer p, .slice A m c] VT)) (Array.replicate N (.int .i64 0)) N (by rw [World.size_alloc]; omega) (by simp [maxLen]; omega) (by simp)
    rw [World.size_alloc] at h
    exact (h.alloc _).alloc _
  have hV4 : VF (fun b => K b ∨ b = w.heap.size + 1 + 1 + 1) W4 (N : Int) L p (.slice A m c) xs ys := (HV.out.below hB4).mono fun _ h => Or.inl h
  have hlt4 : ∀ b, (K b ∨ b = w.heap.size + 1 + 1 + 1) → b < W4.heap.size := fun b h => h.elim (fun h => by have := HK.out b h; omega) (fun h => by omega)
  refine wpIn_rangeFunc_ownG rfl h1 (gf := 23) (lb := #[.pointer (some ⟨w.heap.size + 1 + 1 + 1, 0, none⟩)]) rfl trivial (enters_of Try.func23 (by kernel_rfl) rfl)
    (all_stops (fun b => K b ∨ b = w.heap.size + 1 + 1 + 1) (w.heap.size + 1 + 1 + 1) m c (n - 1) (N : Int) L p A xs ys W4 hlt4 (Or.inr rfl) hbox4 hV4) (fun h k => Kept.trans h k) ?kb ?b0 (fun _ => rfl)
    (fun pre W => ((∃ v, Boxed W (w.heap.size + 1 + 1) 24 v ∧ W.ownsRow w.heap.size 3 1 v pre.length (pre.map fun x => Value.int .i64 x.2) ∧ True) ∧ Below w.heap.size w W) ∧ W.heap[w.heap.size + 1 + 1 + 1]? = some (.cells #[.int .i64 (N : Int), .int .i64 L, .pointer p, .slice A m c] VT (0, 0)))
    (fun _ _ _ => False) ?hI (fun _ _ _ _ _ hs _ _ => hs) ?h0
    (fun x => { tmps := #[vec (N : Int) L p (.slice A m c), .pointer (some ⟨w.heap.size, 0, none⟩), .slice none 0 0, .pointer (some ⟨w.heap.size + 1 + 1, 0, none⟩), undef, .int .i64 x.2, .pointer (some ⟨w.heap.size, 0, none⟩), .int .i64 (N : Int), .slice (some ⟨w.heap.size + 1, 0, none⟩) 0 N, .agg #[.int .i64 (N : Int), .int .i64 L, .pointer p, .slice A m c], .func (.func 23) #[] #[.pointer (some ⟨w.heap.size + 1 + 1 + 1, 0, none⟩)], .int .i64 x.1, .int .i64 x.2, undef, undef, undef, undef, undef], defers := [] }) ?assign ?body ?done ?stop
  case kb =>
    intro W l o o' hl _ _ _ b hb
    have hb4 := hlt4 b hb
    have hne : b ≠ l := by rw [hW4] at hl; omega
    simp [World.putObj, Array.getElem?_setIfInBounds_ne (Ne.symm hne)]
  case b0 => rw [hW4]; exact Below.refl _ _
  case h0 => rw [hW4]; exact ⟨⟨⟨_, hout4, by simpa using hrow4, trivial⟩, hB4⟩, hbox4⟩
  case assign =>
    intro l x W K hK
    gi_wp2
    exact hK
  case stop =>
    rintro D c pre W _ _ h _
    exact h.elim
  case hI =>
    refine OwnFrom.and (OwnFrom.and (Own.from (holdsRow_own w.heap.size (w.heap.size + 1 + 1) 24 3 1 (fun pre : List (Int × Int) => pre.length) (fun pre => pre.map fun x => Value.int .i64 x.2) (fun _ _ => True)) _) (ownFrom_below (Nat.le_refl _) (by rw [hW4]; omega))) ?_
    intro s X Y row hs hg hr
    exact (hg.block _ (blk_lt hs) (fun e => by have := (hr _ e.symm).1; rw [hW4] at this; omega)).trans hs
  case done =>
    rintro D zs W hD rfl ⟨⟨⟨v, hv, hrow, _⟩, hB⟩, _⟩ hK
    have hc := hv.cell
    gi_wp2
    refine ⟨by simp, .inl ⟨_, _, rfl, run_takeDeferred hK, ?_⟩⟩
    refine ⟨_, results_tmp rfl _ _ _, v, rfl, ?_, hB.trans (belowK_b (w := w) (Nat.le_refl _) W D _ _ (by rw [hW4] at hD; omega) hK rfl rfl)⟩
    have h2 := ownsRow_putObj hrow (.deferred none) hK rfl
    rw [idx_length, idx_vals] at h2
    exact h2
  case body =>
    rintro l pre x W ⟨⟨⟨v, hv, hrow, _⟩, hB⟩, hbx⟩ hlt
    have hc := hv.cell
    have hpl : pre.length < 1000000 := by rw [List.length_append] at hlt; have := HN.out; omega
    gi_wp2_with (gi_at_builtin; refine wpListIn_append_own _ rfl _ _ 24 rfl w.heap.size 3 i0 (.int .i64 0) 1 8 Try.underlying24 hi hz0 hz1 hz2 rfl (by decide) _ _ _ rfl (hrow.alloc _) ⟨W.heap.size, 0, none⟩ 1 1 [.int .i64 x.2] rfl rfl (cell_one_new _ _ _) (by simp [Value.oneCell']) (by simp [maxLen]; omega) (by omega) (by have := hB.size; simp; omega) ?_; intro v' w1 hown' hgrow _; obtain ⟨g', cap', rfl⟩ := ownsRow_succ hown'; obtain ⟨hv1, hv2, hr2, hk2, hb2⟩ := hv.appended (by decide) hrow hB.size (by omega) hown' hgrow; have hc1 := hv1.cell; have hf1 := hv1.frozen)
    have hk3 : (w1.setCell ⟨w.heap.size + 1 + 1, 0, none⟩ (.slice (some ⟨g', 0, none⟩) (pre.length + 1) cap')).heap[w.heap.size + 1 + 1 + 1]? = W.heap[w.heap.size + 1 + 1 + 1]? := by
      rw [Below.heap_setCell _ _ _ _ (by simp)]
      exact (hgrow.block _ (by rw [World.size_alloc]; have := blk_lt hbx; omega) (not_row4 hbx (by decide) hrow)).trans (Below.heap_alloc W _ _ (blk_lt hbx))
    exact ⟨hk2.from _, fun b hb => hb.elim (fun h => hb2.block b (HK.out b h)) (fun h => by rw [h]; exact hk3), ⟨⟨_, hv2, by simpa using hr2, trivial⟩, hB.trans hb2⟩, hk3.trans hbx⟩
end Go.Proofs.Ytmoakgacffjblaa.Pv
end

section
namespace Go.Proofs.Ytmoakgacffjblaa.Pv
open Go Go.RowKit Go.Proofs.Ytmoakgacffjblaa.Mem Go.Proofs.YtmoakgacffjblaaW.PrintWords

theorem SlV.of_row {w : World} {base n : Nat} {e : TypeId} {v : Value} {xs : List Value} (h : w.ownsRow base e 1 v n xs) (h1 : ∀ u ∈ xs, u.oneCell' = true) : SlV (fun b => base ≤ b) w v xs := by
  have hl : xs.length = n := by have := h.1; omega
  subst hl
  have hc := @World.ownsRow.cells
  rcases h.2 with ⟨rfl, h0⟩ | ⟨g, cap, cur, rfl, hb, hg, hn, hm, hs, ht⟩
  · obtain rfl := List.eq_nil_of_length_eq_zero h0
    exact SlV.nil _ _
  · exact ⟨some ⟨g, 0, none⟩, cap, rfl, hn, hm, fun _ => ⟨_, rfl, hb, fun j u hu => h.cells rfl j u hu⟩, h1⟩

/-- ALL THINGS OF A VECTOR. -/
theorem list_c (K : Nat → Prop) (v : Value) (l : List Int) (w : World) (h : VRep K w v l) :
    Calls Try.prog 12 #[v] w (Ret (fun u w' => SlV (Fresh w) w' u (ints l)) w) := by
  obtain ⟨n, L, p, A, m, c, xs, ys, rfl, rfl, hV, hi⟩ := h
  obtain ⟨N, rfl⟩ : ∃ N : Nat, n = (N : Int) := ⟨xs.length + ys.length, by have := hV.num; push_cast; exact this⟩
  refine (callsIn_wide.1 (list_f (fun b => K b ∧ b < w.heap.size) N L p A m c xs ys w hV.bound (fun b h => h.2) 3 (by omega))).mono ?_
  rintro e w' ⟨v, rfl, hr, hb⟩
  exact ⟨v, rfl, SlV.of_row hr (by intro u hu; obtain ⟨x, _, rfl⟩ := List.mem_map.1 hu; rfl), hb⟩
end Go.Proofs.Ytmoakgacffjblaa.Pv
end

section
namespace Go.Proofs.Ytmoakgacffjblaa.Pv
open Go Go.RowKit Go.Proofs.Ytmoakgacffjblaa.Mem Go.Proofs.YtmoakgacffjblaaW.PrintWords

/-- the levels of a trie of things -/
def Lev (o : Nat) (L : Int) : Prop := (o = 0 ∧ L = 0) ∨ ∃ d : Nat, L = (d : Int) + 1 ∧ 1 ≤ o ∧ o ≤ 32 ^ (d + 1) ∧ (d = 0 ∨ 32 ^ d < o)

theorem Trie.lev {K : Nat → Prop} {w : World} {L : Int} {p : Option Addr} {xs : List Int} (h : Trie K w L p xs) : Lev xs.length L := by
  rcases h with ⟨rfl, rfl, _⟩ | ⟨d, g, h1, _, hN, _, hm⟩
  · exact Or.inl ⟨rfl, rfl⟩
  · exact Or.inr ⟨d, h1, hN.len.1, hN.len.2, hm⟩

theorem Lev.one {o : Nat} {L L' : Int} (h : Lev o L) (h' : Lev o L') : L = L' := by
  rcases h with ⟨h1, h2⟩ | ⟨d, h1, h2, h3, h4⟩ <;> rcases h' with ⟨k1, k2⟩ | ⟨d', k1, k2, k3, k4⟩
  · omega
  · omega
  · omega
  · have : d = d' := by
      rcases Nat.lt_trichotomy d d' with hlt | rfl | hlt
      · have := Nat.pow_le_pow_right (show 0 < 32 by decide) (show d + 1 ≤ d' from hlt)
        omega
      · rfl
      · have := Nat.pow_le_pow_right (show 0 < 32 by decide) (show d' + 1 ≤ d from hlt)
        omega
    omega

/-- how many things lie in the trie of a vector of a length -/
def inTrie (n : Nat) : Nat := 32 * ((n - 1) / 32)

theorem VRep.lev {K : Nat → Prop} {w : World} {v : Value} {l : List Int} (h : VRep K w v l) : ∃ n L p t, v = vec n L p t ∧ Lev (inTrie l.length) L := by
  obtain ⟨n, L, p, A, m, c, xs, ys, rfl, rfl, hV, hi⟩ := h
  refine ⟨n, L, p, _, rfl, ?_⟩
  have hl := hV.trie.lev
  have hd : 32 ∣ xs.length := by
    rcases hV.trie with ⟨rfl, _⟩ | ⟨d, g, _, _, _, h32, _⟩
    · exact ⟨0, rfl⟩
    · exact h32
  have hf := hV.few
  have : inTrie (xs ++ ys).length = xs.length := by
    unfold inTrie
    rw [List.length_append]
    rcases Nat.eq_zero_or_pos ys.length with h0 | h0
    · have := hi (List.eq_nil_of_length_eq_zero h0)
      subst this
      simp [h0]
    · omega
  rw [this]; exact hl
end Go.Proofs.Ytmoakgacffjblaa.Pv
end

section
namespace Go.Proofs.Ytmoakgacffjblaa.Pv
open Go Go.RowKit Go.Proofs.Ytmoakgacffjblaa.Mem Go.Proofs.YtmoakgacffjblaaW.PrintWords Go.Proofs.Ytmoakgacffjblaa.PPvecDoes

theorem wrap_mid (a : Int) (h0 : 0 ≤ a) (h1 : a ≤ 1000000000000) : wrap64 a = a := by unfold wrap64; omega

/-- the second loop: levels and room go up till the room is enough -/
theorem levels_l1 (o d : Nat) (ho : o ≤ 1000000) (h1 : o ≤ 32 ^ (d + 1)) (h2 : d = 0 ∨ 32 ^ d < o) (hd : d ≤ 3) : ∀ (i j : Nat), j + i = d → ∀ k, i + 1 ≤ k → placketref07_Levels.l1 k (o : Int) ((j : Int) + 1) ((32 ^ (j + 1) : Nat) : Int) = some ((d : Int) + 1) := by
  intro i
  induction i with
  | zero =>
    intro j hj k hk
    obtain rfl : j = d := by omega
    obtain ⟨k, rfl⟩ : ∃ k', k = k' + 1 := ⟨k - 1, by omega⟩
    rw [placketref07_Levels.l1, if_neg (by omega)]
  | succ i ih =>
    intro j hj k hk
    obtain ⟨k, rfl⟩ : ∃ k', k = k' + 1 := ⟨k - 1, by omega⟩
    have hlt : 32 ^ (j + 1) < o := by
      rcases h2 with h | h
      · omega
      · exact Nat.lt_of_le_of_lt (Nat.pow_le_pow_right (by decide) (by omega)) h
    have h3 : (32 : Nat) ^ (j + 1) * 32 ≤ 1000000 * 32 := Nat.mul_le_mul_right _ (by omega)
    have e1 : wrap64 ((j : Int) + 1 + 1) = ((j + 1 : Nat) : Int) + 1 := by rw [wrap_mid _ (by omega) (by omega)]; push_cast; rfl
    have e2 : wrap64 (((32 ^ (j + 1) : Nat) : Int) * 32) = ((32 ^ (j + 1 + 1) : Nat) : Int) := by
      rw [Nat.pow_succ 32 (j + 1)]
      generalize 32 ^ (j + 1) = P at *
      rw [wrap_mid _ (by omega) (by omega)]; push_cast; rfl
    rw [placketref07_Levels.l1, if_pos (by omega), e1, e2]
    exact ih (j + 1) (by omega) k (by omega)

theorem levels_j1 (n o t : Nat) (L : Int) (h : Lev o L) (ho : o ≤ 1000000) (hn : n = t + o) (ht : t ≤ 1000000) (k : Nat) (hk : 6 ≤ k) : placketref07_Levels.j1 k (n : Int) (t : Int) = some L := by
  obtain ⟨k, rfl⟩ : ∃ k', k = k' + 1 := ⟨k - 1, by omega⟩
  have e : wrap64 ((n : Int) - (t : Int)) = (o : Int) := by rw [wrap_mid _ (by omega) (by omega)]; omega
  rw [placketref07_Levels.j1, e]
  rcases h with ⟨rfl, rfl⟩ | ⟨d, rfl, h1, h2, h3⟩
  · rfl
  · have hd : d ≤ 3 := by
      rcases h3 with h | h
      · omega
      · exact lev_small h ho
    rw [if_neg (by omega)]
    exact levels_l1 o d ho h2 h3 hd d 0 (by omega) k (by omega)

/-- the first loop: the tail goes up till the others are a multiple of 32 -/
theorem levels_l0 (n : Nat) (L : Int) (h : Lev (inTrie n) L) (hn : n ≤ 1000000) : ∀ (i t : Nat), t + i = n - inTrie n → ∀ k, i + 8 ≤ k → placketref07_Levels.l0 k (n : Int) (t : Int) = some L := by
  have hin : inTrie n ≤ n := by unfold inTrie; omega
  intro i
  induction i with
  | zero =>
    intro t ht k hk
    obtain ⟨k, rfl⟩ : ∃ k', k = k' + 1 := ⟨k - 1, by omega⟩
    have hj := levels_j1 n (inTrie n) t L h (by omega) (by omega) (by omega) k (by omega)
    rw [placketref07_Levels.l0]
    by_cases hlt : (t : Int) < (n : Int)
    · have ht0 : ¬ ((t : Int) = 0) := by unfold inTrie at *; omega
      have e : wrap64 ((n : Int) - (t : Int)) = (n : Int) - (t : Int) := wrap_mid _ (by omega) (by omega)
      rw [if_pos hlt, if_neg ht0, e, if_pos (by rw [Int.tmod_eq_emod_of_nonneg (by omega)]; unfold inTrie at ht; omega)]
      exact hj
    · rw [if_neg hlt]; exact hj
  | succ i ih =>
    intro t ht k hk
    obtain ⟨k, rfl⟩ : ∃ k', k = k' + 1 := ⟨k - 1, by omega⟩
    have e1 : wrap64 ((t : Int) + 1) = ((t + 1 : Nat) : Int) := by rw [wrap_mid _ (by omega) (by omega)]; push_cast; rfl
    have hr := ih (t + 1) (by omega) k (by omega)
    rw [placketref07_Levels.l0, if_pos (by omega)]
    by_cases ht0 : (t : Int) = 0
    · rw [if_pos ht0, e1]; exact hr
    · have e : wrap64 ((n : Int) - (t : Int)) = (n : Int) - (t : Int) := wrap_mid _ (by omega) (by omega)
      rw [if_neg ht0, e, if_neg (by rw [Int.tmod_eq_emod_of_nonneg (by omega)]; unfold inTrie at ht; omega), e1]
      exact hr

theorem levels_f (n : Nat) (L : Int) (h : Lev (inTrie n) L) (hn : n ≤ 1000000) : ∃ k, placketref07_Levels.f k (n : Int) = some L := by
  have hin : inTrie n ≤ n := by unfold inTrie; omega
  exact ⟨n - inTrie n + 8, levels_l0 n L h hn (n - inTrie n) 0 (by omega) _ (Nat.le_refl _)⟩
end Go.Proofs.Ytmoakgacffjblaa.Pv
end

section
namespace Go.Proofs.Ytmoakgacffjblaa.Pv
open Go Go.RowKit Go.Proofs.Ytmoakgacffjblaa.Mem Go.Proofs.YtmoakgacffjblaaW.PrintWords Go.Proofs.Ytmoakgacffjblaa.PPvecDoes

/-- a list in memory of the call's own -/
def Own (base : Nat) (w : World) (v : Value) (xs : List Int) : Prop := w.ownsRow base 3 1 v xs.length (ints xs)

theorem ints_one (xs : List Int) : ∀ u ∈ ints xs, u.oneCell' = true := by intro u hu; obtain ⟨x, _, rfl⟩ := List.mem_map.1 hu; rfl

theorem Own.slv {base : Nat} {w : World} {v : Value} {xs : List Int} (h : Own base w v xs) : SlV (fun b => base ≤ b) w v (ints xs) := SlV.of_row h (ints_one xs)

theorem Own.of_R {base : Nat} {w : World} {ok : Nat → Prop} {v : Value} {xs : List Int} (h : (Kd.int .i64).R 3 w base ok v xs) : Own base w v xs := Kd.own_of_R (enc := Value.int .i64) (h1 := fun _ => rfl) h

theorem slv_toC {K : Nat → Prop} {w : World} {A : Option Addr} {n c : Nat} {xs : List Int} (h : SlV K w (.slice A n c) (ints xs)) : n = xs.length ∧ (Kd.int .i64).C w A xs.length xs ∧ xs.length ≤ c := by
  have hn : n = xs.length := by have := h.len; simpa using this
  obtain ⟨A', c', he, h1, h2, h3, h4⟩ := h
  injection he with hA hl hc
  subst hA hc
  have hlen : (ints xs).length = xs.length := by simp
  rw [hlen] at h1 h3
  refine ⟨hn, Kd.C_of_reads (enc := Value.int .i64) (d := (0 : Int)) (h1 := fun _ => rfl) ⟨rfl, by unfold maxLen at h2; omega, fun hp => ?_⟩, h1⟩
  obtain ⟨ad, e, _, hcell⟩ := h3 hp
  refine ⟨ad, e, fun j hj => hcell j _ ?_⟩
  simp [List.getElem?_eq_getElem hj, List.getD_eq_getElem?_getD]

def runL (x : Int) (n : Nat) : List Int := (List.range n).map fun i : Nat => wrap64 (x + (i : Int))
@[simp] theorem runL_length (x : Int) (n : Nat) : (runL x n).length = n := by simp [runL]
theorem runL_succ (x : Int) (n : Nat) : runL x (n + 1) = runL x n ++ [wrap64 (x + (n : Int))] := by simp [runL, List.range_succ]

theorem run_l0 (x n : Int) (hn : n ≤ 1000000) : ∀ (i j : Nat), (j : Int) + i = max n 0 → ∀ k, i + 1 ≤ k → placketref07_Run.l0 k x (runL x j) n (j : Int) = some (runL x n.toNat) := by
  intro i
  induction i with
  | zero =>
    intro j hj k hk
    obtain ⟨k, rfl⟩ : ∃ k', k = k' + 1 := ⟨k - 1, by omega⟩
    rw [placketref07_Run.l0, if_neg (by omega)]
    obtain rfl : j = n.toNat := by omega
    rfl
  | succ i ih =>
    intro j hj k hk
    obtain ⟨k, rfl⟩ : ∃ k', k = k' + 1 := ⟨k - 1, by omega⟩
    have e1 : wrap64 ((j : Int) + 1) = ((j + 1 : Nat) : Int) := by rw [wrap_mid _ (by omega) (by omega)]; push_cast; rfl
    rw [placketref07_Run.l0, if_pos (by omega), if_pos (by rw [runL_length]; omega), e1, ← runL_succ]
    exact ih (j + 1) (by omega) k (by omega)

theorem run_c (x n : Int) (hn : n ≤ 1000000) (w : World) : Calls Try.prog 10 #[.int .i64 x, .int .i64 n] w (Ret (fun u w' => Own w.heap.size w' u (runL x n.toNat)) w) := by
  have h0 : placketref07_Run.f (n.toNat + 1) x n = some (runL x n.toNat) := run_l0 x n hn n.toNat 0 (by omega) _ (by omega)
  refine (placketref07_Run.calls (n.toNat + 1) x n _ w h0).mono ?_
  rintro e w' ⟨v, rfl, hR, hb⟩
  exact ⟨v, rfl, Own.of_R hR, hb⟩

theorem copied_f (xs : List Int) (hl : xs.length ≤ 1000000) : placketref07_Copied.f xs = some xs := by
  unfold placketref07_Copied.f
  simp only [Option.bind_some, List.length_nil, List.nil_append]
  rw [if_pos (by omega)]

theorem copied_c (K : Nat → Prop) (s : Value) (xs : List Int) (hl : xs.length ≤ 1000000) (w : World) (h : SlV K w s (ints xs)) : Calls Try.prog 29 #[s] w (Ret (fun u w' => Own w.heap.size w' u xs) w) := by
  obtain ⟨A, n, c, rfl⟩ := h.form
  obtain ⟨rfl, hC, hc⟩ := (slv_toC h)
  refine (placketref07_Copied.calls A c xs xs w hC hc (copied_f xs hl)).mono ?_
  rintro e w' ⟨v, rfl, hR, hb⟩
  exact ⟨v, rfl, Own.of_R hR, hb⟩

theorem rset_in (K : Nat → Prop) (s : Value) (xs : List Int) (hl : xs.length ≤ 1000000) (i x : Int) (hi : 0 ≤ i ∧ i < xs.length) (w : World) (h : SlV K w s (ints xs)) :
    Calls Try.prog 31 #[s, .int .i64 i, .int .i64 x] w (Ret (fun u w' => ∃ v, u = .tuple #[v, .int .i64 0] ∧ Own w.heap.size w' v (xs.set i.toNat x)) w) := by
  obtain ⟨A, n, c, rfl⟩ := h.form
  obtain ⟨rfl, hC, hc⟩ := (slv_toC h)
  have hf : placketref07_Set.f xs i x = some (xs.set i.toNat x, 0) := by
    unfold placketref07_Set.f
    rw [if_neg (by omega), if_neg (by omega), copied_f xs hl, Option.bind_some, if_pos (by omega), if_pos (by omega)]
  refine (placketref07_Set.calls A c xs i x _ _ w hC hc hf).mono ?_
  rintro e w' ⟨v, rfl, hR, hb⟩
  exact ⟨_, rfl, ⟨v, rfl, Own.of_R hR⟩, hb⟩

theorem rset_no (K : Nat → Prop) (s : Value) (xs : List Int) (i x : Int) (hi : ¬ (0 ≤ i ∧ i < xs.length)) (w : World) (h : SlV K w s (ints xs)) :
    Calls Try.prog 31 #[s, .int .i64 i, .int .i64 x] w (Ret (fun u w' => ∃ v, u = .tuple #[v, .int .i64 4] ∧ Own w.heap.size w' v []) w) := by
  obtain ⟨A, n, c, rfl⟩ := h.form
  obtain ⟨rfl, hC, hc⟩ := (slv_toC h)
  have hf : placketref07_Set.f xs i x = some ([], 4) := by
    unfold placketref07_Set.f
    by_cases h0 : i < 0
    · rw [if_pos h0]
    · rw [if_neg h0, if_pos (by omega)]
  refine (placketref07_Set.calls A c xs i x _ _ w hC hc hf).mono ?_
  rintro e w' ⟨v, rfl, hR, hb⟩
  exact ⟨_, rfl, ⟨v, rfl, Own.of_R hR⟩, hb⟩

theorem rkeep_c (K : Nat → Prop) (s : Value) (xs : List Int) (hl : xs.length ≤ 1000000) (N : Int) (w : World) (h : SlV K w s (ints xs)) :
    Calls Try.prog 32 #[s, .int .i64 N] w (Ret (fun v w' => Own w.heap.size w' v (xs.take (min (max N 0).toNat xs.length))) w) := by
  obtain ⟨A, n, c, rfl⟩ := h.form
  obtain ⟨rfl, hC, hc⟩ := (slv_toC h)
  have hm : mn (mx N 0) (xs.length : Int) = ((min (max N 0).toNat xs.length : Nat) : Int) := by unfold mn mx; omega
  have hf : placketref07_Keep.f xs N = some (xs.take (min (max N 0).toNat xs.length)) := by
    unfold placketref07_Keep.f
    rw [hm, if_pos (by omega), if_pos (by omega), Int.toNat_natCast, copied_f _ (by rw [List.length_take]; omega), Option.bind_some]
  refine (placketref07_Keep.calls A c xs N _ w hC hc hf).mono ?_
  rintro e w' ⟨v, rfl, hR, hb⟩
  exact ⟨_, rfl, Own.of_R hR, hb⟩

theorem rget_in (K : Nat → Prop) (s : Value) (xs : List Int) (i x : Int) (h0 : 0 ≤ i) (hx : xs[i.toNat]? = some x) (w : World) (h : SlV K w s (ints xs)) :
    Calls Try.prog 21 #[s, .int .i64 i] w (Ret (fun v w' => v = .tuple #[.int .i64 x, .bool true]) w) := by
  obtain ⟨A, n, c, rfl⟩ := h.form
  obtain ⟨rfl, hC, hc⟩ := (slv_toC h)
  have hl : i.toNat < xs.length := (List.getElem?_eq_some_iff.1 hx).1
  have hf : placketref07_Get.f xs i = some (x, true) := by
    unfold placketref07_Get.f
    rw [if_neg (by omega), if_neg (by omega), if_pos (by omega), if_pos (by omega)]
    simp [rd, List.getD_eq_getElem?_getD, hx]
  refine (placketref07_Get.calls A c xs i _ _ w hC hc hf).mono ?_
  rintro e w' ⟨rfl, hD⟩
  exact ⟨_, rfl, rfl, hD.below⟩

theorem rget_no (K : Nat → Prop) (s : Value) (xs : List Int) (i : Int) (hi : ¬ (0 ≤ i ∧ i < xs.length)) (w : World) (h : SlV K w s (ints xs)) :
    Calls Try.prog 21 #[s, .int .i64 i] w (Ret (fun v w' => v = .tuple #[.int .i64 0, .bool false]) w) := by
  obtain ⟨A, n, c, rfl⟩ := h.form
  obtain ⟨rfl, hC, hc⟩ := (slv_toC h)
  have hf : placketref07_Get.f xs i = some (0, false) := by
    unfold placketref07_Get.f
    by_cases h0 : i < 0
    · rw [if_pos h0]
    · rw [if_neg h0, if_pos (by omega)]
  refine (placketref07_Get.calls A c xs i _ _ w hC hc hf).mono ?_
  rintro e w' ⟨rfl, hD⟩
  exact ⟨_, rfl, rfl, hD.below⟩

theorem same_l0 (xs : List Int) (hl : xs.length ≤ 1000000) : ∀ (i j : Nat), j + i = xs.length → ∀ k, i + 1 ≤ k → placketref07_Same.l0 k xs xs (xs.length : Int) (j : Int) = some true := by
  intro i
  induction i with
  | zero =>
    intro j hj k hk
    obtain ⟨k, rfl⟩ : ∃ k', k = k' + 1 := ⟨k - 1, by omega⟩
    rw [placketref07_Same.l0, if_neg (by omega)]
  | succ i ih =>
    intro j hj k hk
    obtain ⟨k, rfl⟩ : ∃ k', k = k' + 1 := ⟨k - 1, by omega⟩
    have e1 : wrap64 ((j : Int) + 1) = ((j + 1 : Nat) : Int) := by rw [wrap_mid _ (by omega) (by omega)]; push_cast; rfl
    rw [placketref07_Same.l0, if_pos (by omega), if_pos (by omega), if_pos (by omega), if_pos (by omega), if_pos rfl, e1]
    exact ih (j + 1) (by omega) k (by omega)

theorem rsame_c (K K' : Nat → Prop) (s u : Value) (xs : List Int) (hl : xs.length ≤ 1000000) (w : World) (h : SlV K w s (ints xs)) (h' : SlV K' w u (ints xs)) :
    Calls Try.prog 13 #[s, u] w (Ret (fun v w' => v = .bool true) w) := by
  obtain ⟨A, n, c, rfl⟩ := h.form
  obtain ⟨rfl, hC, hc⟩ := (slv_toC h)
  obtain ⟨A', n', c', rfl⟩ := h'.form
  obtain ⟨rfl, hC', hc'⟩ := (slv_toC h')
  have hf : placketref07_Same.f (xs.length + 1) xs xs = some true := by
    unfold placketref07_Same.f
    rw [if_pos rfl]
    exact same_l0 xs hl xs.length 0 (by omega) _ (by omega)
  refine (placketref07_Same.calls _ A c xs A' c' xs _ w hC hc hC' hc' hf).mono ?_
  rintro e w' ⟨rfl, hD⟩
  exact ⟨_, rfl, rfl, hD.below⟩

/-- the document's levels are the vector's -/
theorem rlev_c (n : Nat) (L : Int) (h : Lev (inTrie n) L) (hn : n ≤ 1000000) (w : World) :
    Calls Try.prog 35 #[.int .i64 (n : Int)] w (Ret (fun v w' => v = .int .i64 L) w) := by
  obtain ⟨k, hf⟩ := levels_f n L h hn
  refine (placketref07_Levels.calls k n L w hf).mono ?_
  rintro e w' ⟨rfl, hD⟩
  exact ⟨_, rfl, rfl, hD.below⟩

/-- the levels that a vector tells -/
theorem lev_r (K : Nat → Prop) (v : Value) (l : List Int) (w : World) (h : VRep K w v l) :
    Calls Try.prog 17 #[v] w (Ret (fun u w' => ∃ L, u = .int .i64 L ∧ Lev (inTrie l.length) L) w) := by
  obtain ⟨n, L, p, t, rfl, hL⟩ := h.lev
  refine (levels_c n L p t w).mono ?_
  rintro e w' ⟨rfl, rfl⟩
  exact ⟨_, rfl, ⟨L, rfl, hL⟩, (Below.refl _ _).alloc (Nat.le_refl _) _⟩
end Go.Proofs.Ytmoakgacffjblaa.Pv
end

section
namespace Go.Proofs.Ytmoakgacffjblaa.Pv
open Go Go.RowKit Go.Proofs.Ytmoakgacffjblaa.Mem Go.Proofs.YtmoakgacffjblaaW.PrintWords

theorem vrep_form {K : Nat → Prop} {w : World} {v : Value} {l : List Int} (h : VRep K w v l) : ∃ n L p A m c, v = vec n L p (.slice A m c) := by
  obtain ⟨n, L, p, A, m, c, xs, ys, h1, _⟩ := h
  exact ⟨n, L, p, A, m, c, h1⟩

theorem lev_33 {L : Int} (h : Lev (inTrie 33) L) : L = 1 := h.one (Or.inr ⟨0, rfl, by decide, by decide, Or.inl rfl⟩)
theorem lev_32 {L : Int} (h : Lev (inTrie 32) L) : L = 0 := h.one (Or.inl ⟨rfl, rfl⟩)

theorem run_33 : (runL 0 (Int.toNat 33))[Int.toNat 32]? = some 32 := by decide +kernel

set_option maxHeartbeats 2000000 in
theorem live_c (w : World) : Calls Try.prog 8 #[] w (Ret (fun v _ => v = .bool true) w) := by
  go_enter Try.func8, Try.ntmps8
  go_wp2_with (first
    | (go_at_call 10; ((with_reducible refine (run_c _ _ ?_ _).mono ?_); (omega); rintro e w1 ⟨v, rfl, hO, hb1⟩; have hB1 : Below w.heap.size w w1 := below_trans (by go_grown) hb1; obtain ⟨A, n, c, rfl⟩ := hO.slv.form; have HO := Lib.hid hO.slv; clear hO hb1))
    | (go_at_call 9; ((with_reducible refine (of_c _ _ _ _ HO.out ?_).mono ?_); (rw [runL_length]; decide); rintro e w2 ⟨v, rfl, hV, hb2⟩; have hB2 : Below w.heap.size w w2 := below_trans (by go_grown) hb2; obtain ⟨n', L', p', A', m', c', rfl⟩ := vrep_form hV; have HV := Lib.hid hV; clear hV HO hb2 hB1))
    | (go_at_call 20; ((with_reducible refine (get_in _ _ _ 32 32 _ (HV.out.below (by go_grown)) (by decide) run_33).mono ?_); rintro e w3 ⟨v, rfl, rfl, hb3⟩; have hB3 : Below w.heap.size w w3 := below_trans (hB2.alloc hB2.size _) hb3; have BK := blk_below (blk_new w2 _) hb3; obtain ⟨⟨k0, k1, k2, k3⟩, f0, f1, f2, f3⟩ := box4 BK; have HBK := Lib.hid BK; clear BK; have HV3 := Lib.hid ((HV.out.below ((Below.refl _ _).alloc (Nat.le_refl _) _)).below hb3); clear HV hb3 hB2))
    | (go_at_call 16; ((with_reducible refine (len_r _ _ _ _ HV3.out).mono ?_); rintro e w4 ⟨v, rfl, rfl, hb4⟩; have hB4 : Below w.heap.size w w4 := below_trans (by go_grown) hb4; have BK := blk_below HBK.out hb4; obtain ⟨⟨k0, k1, k2, k3⟩, f0, f1, f2, f3⟩ := box4 BK; clear BK; have HV4 := Lib.hid (HV3.out.below hb4); clear HV3 hb4 hB3))
    | (go_at_call 17; ((with_reducible refine (lev_r _ _ _ _ HV4.out).mono ?_); rintro e w5 ⟨v, rfl, ⟨L5, rfl, hL5⟩, hb5⟩; have hB5 : Below w.heap.size w w5 := below_trans (by go_grown) hb5; obtain rfl := lev_33 (by simpa using hL5); clear HV4 hL5 hb5 hB4))
    | (go_at_call 17; ((with_reducible refine (lev_r _ _ _ _ HV.out).mono ?_); rintro e w8 ⟨v, rfl, ⟨L8, rfl, hL8⟩, hb8⟩; have hB8 : Below w.heap.size w w8 := below_trans (by go_grown) hb8; obtain rfl := lev_32 (by simpa using hL8); clear HV hL8 hb8)))
  go_returns
  exact ⟨_, rfl, rfl, by go_grown⟩
end Go.Proofs.Ytmoakgacffjblaa.Pv
end

section
namespace Go.Proofs.Ytmoakgacffjblaa.Pv
open Go Go.RowKit Go.Proofs.Ytmoakgacffjblaa.Mem Go.Proofs.YtmoakgacffjblaaW.PrintWords

theorem vrep_far {K : Nat → Prop} {w : World} {v : Value} {l : List Int} (h : VRep K w v l) (g : Nat) (i : Nat) (u : Value) (hg : ¬ K g) : VRep K (w.setCell ⟨g, i, none⟩ u) v l :=
  h.keep (fun _ h => h) fun b hb _ => Below.heap_setCell w ⟨g, i, none⟩ u b (fun e => hg (by have e' : b = g := e; rw [← e']; exact hb))
theorem slv_far {K : Nat → Prop} {w : World} {v : Value} {xs : List Value} (h : SlV K w v xs) (g : Nat) (i : Nat) (u : Value) (hg : ¬ K g) : SlV K (w.setCell ⟨g, i, none⟩ u) v xs :=
  h.keep fun b hb _ => Below.heap_setCell w ⟨g, i, none⟩ u b (fun e => hg (by have e' : b = g := e; rw [← e']; exact hb))

/-- what an operation makes of a list -/
def doesL (l : List Int) (D I X N : Int) : List Int :=
  if D = 0 then l ++ runL X N.toNat
  else if D = 1 then (if 0 ≤ I ∧ I < l.length then l.set I.toNat X else l)
  else if D = 2 then l.take (l.length - N.toNat)
  else if D = 3 then l.take (min (max N 0).toNat l.length)
  else l

def DoesP (K : Nat → Prop) (l : List Int) (u : Value) (w : World) : Prop := ∃ v s, u = .tuple #[v, s, .bool true] ∧ VRep K w v l ∧ SlV K w s (ints l)

theorem own_form {base : Nat} {w : World} {A : Option Addr} {n c : Nat} {ys : List Int} (h : Own base w (.slice A n c) ys) : n = ys.length ∧ (0 < ys.length → ∃ g, A = some ⟨g, 0, none⟩) := by
  rcases h.2 with ⟨h1, h0⟩ | ⟨g, cap, cur, h1, _⟩
  · injection h1 with h1 h2 h3
    exact ⟨by omega, fun hp => by omega⟩
  · injection h1 with h1 h2 h3
    exact ⟨h2, fun _ => ⟨g, h1⟩⟩

/-- four stores into one block -/
abbrev put4w (w : World) (g : Nat) (a b c d : Value) : World := (((w.setCell ⟨g, 0, none⟩ a).setCell ⟨g, 1, none⟩ b).setCell ⟨g, 2, none⟩ c).setCell ⟨g, 3, none⟩ d

/-- the loop that writes over what was handed in -/
def PushL (w W0 : World) (base : Nat) (own : Value) (len : Nat) (k : Nat) (v35 : Value) (wr : World) : Prop :=
  ∃ (j : Nat) (ys : List Int), v35 = .int .i64 (j : Int) ∧ j + k = len ∧ ys.length = len ∧ Own base wr own ys ∧ (∀ b, some b ≠ own.ownBlock → wr.heap[b]? = W0.heap[b]?) ∧ wr.heap.size = W0.heap.size ∧ Below w.heap.size w wr

set_option maxRecDepth 500000 in
set_option maxHeartbeats 4000000 in
theorem does_push (K : Nat → Prop) (n L : Int) (p A : Option Addr) (m c : Nat) (As : Option Addr) (ns cs : Nat) (l : List Int) (I X N : Int) (w : World) (hV : VRep K w (vec n L p (.slice A m c)) l) (hS : SlV K w (.slice As ns cs) (ints l)) (hK : ∀ b, K b → b < w.heap.size) (hN : N ≤ 10000) (hl : l.length ≤ 500000) :
    Calls Try.prog 19 #[vec n L p (.slice A m c), .slice As ns cs, .agg #[.int .i64 0, .int .i64 I, .int .i64 X, .int .i64 N]] w (Ret (DoesP (New K w) (l ++ runL X N.toNat)) w) := by
  have HV := Lib.hid hV; clear hV
  have HS := Lib.hid hS; clear hS
  have HK := Lib.hid hK; clear hK
  have HL := Lib.hid hl; clear hl
  go_enter Try.func19, Try.ntmps19
  go_wp2_with (first
    | (go_at_call 10; ((with_reducible refine (run_c _ _ ?_ _).mono ?_); (omega); rintro e w1 ⟨v, rfl, hO1, hb1⟩; obtain ⟨A1, n1, c1, rfl⟩ := hO1.slv.form; have HO1 := Lib.hid hO1; clear hO1; have HB0 := Lib.hid (blk_below (blk_alloc (blk_alloc (blk_new w _) _) _) hb1); have HB2 := Lib.hid (blk_below (heap_k2 w _ _ _) hb1); have hB1 : Below w.heap.size w w1 := below_trans (by go_grown) hb1))
    | (go_at_call 29; ((with_reducible refine (copied_c _ _ _ ?_ _ HO1.out.slv).mono ?_); (rw [runL_length]; omega); rintro e w2 ⟨v, rfl, hO2, hb2⟩; obtain ⟨A2, n2, c2, rfl⟩ := hO2.slv.form; have HO2 := Lib.hid hO2; clear hO2; have B0 := blk_below HB0.out hb2; obtain ⟨⟨k0, k1, k2, k3⟩, f0, f1, f2, f3⟩ := box4 B0; clear HB0; have HB0 := Lib.hid B0; clear B0; have B2 := blk_below HB2.out hb2; clear HB2; have HB2 := Lib.hid B2; clear B2; have hB2 : Below w.heap.size w w2 := below_trans hB1 hb2))
    | (go_at_call 14; ((with_reducible refine (push_c _ _ _ _ _ _ _ (HV.out.below hB2) HO2.out.slv ?_).mono ?_); (rw [runL_length]; have := HL.out; omega); rintro e w3 ⟨v, rfl, hV3, hb3⟩; obtain ⟨n', L', p', A', m', c', rfl⟩ := vrep_form hV3; have HV3 := Lib.hid hV3; clear hV3; have B0 := blk_below HB0.out hb3; obtain ⟨⟨k0, k1, k2, k3⟩, f0, f1, f2, f3⟩ := box4 B0; clear HB0; have HB0 := Lib.hid B0; clear B0; have B2 := blk_below HB2.out hb3; clear HB2; have HB2 := Lib.hid B2; clear B2; have hB3 : Below w.heap.size w w3 := below_trans hB2 hb3)))
  obtain ⟨hn2, hg2⟩ := own_form HO2.out
  rw [runL_length] at hn2
  subst hn2
  have hgb : Hid (∀ g, (Value.slice A2 N.toNat c2).ownBlock = some g → w1.heap.size ≤ g ∧ g < w2.heap.size) := Lib.hid fun g hg => ⟨own_base HO2.out g hg, own_lt HO2.out g hg⟩
  have hs1 : w.heap.size + 3 ≤ w1.heap.size := by have := hb1.size; simpa using this
  have hs2 : w1.heap.size ≤ w2.heap.size := hb2.size
  have hs3 : w2.heap.size ≤ w3.heap.size := hb3.size
  have HOW : Hid (Own w1.heap.size (put4w w3 w.heap.size (.int .i64 n') (.int .i64 L') (.pointer p') (.slice A' m' c')) (.slice A2 N.toNat c2) (runL X N.toNat)) := Lib.hid (by
    refine own_move HO2.out fun g hg => ?_
    have h1 := hgb.out g hg
    have hne : g ≠ w.heap.size := by omega
    repeat rw [Below.heap_setCell _ _ _ _ (by exact hne)]
    exact hb3.block g h1.2)
  clear hg2
  go_loopg [35] N.toNat (fun k v35 wr => Aside (PushL w (put4w w3 w.heap.size (.int .i64 n') (.int .i64 L') (.pointer p') (.slice A' m' c')) w1.heap.size (.slice A2 N.toNat c2) N.toNat k v35 wr))
  case atStart =>
    show PushL _ _ _ _ _ _ _ _
    exact ⟨0, runL X N.toNat, rfl, by omega, by simp, HOW.out, fun _ _ => rfl, rfl, by go_grown⟩
  case round =>
    obtain ⟨j, ys, rfl, hj, hys, hO, hF, hsz, hBr⟩ := hrel.out
    clear hrel
    have HF := Lib.hid hF; clear hF
    have HSZ := Lib.hid hsz; clear hsz
    have HY := Lib.hid hys; clear hys
    cases gk with
    | succ k =>
      obtain ⟨g, rfl⟩ := (own_form hO).2 (by rw [HY.out]; omega)
      have hjn : (j : Int) < (N.toNat : Int) := by omega
      obtain ⟨y, hy⟩ : ∃ y, ys[j]? = some y := ⟨_, List.getElem?_eq_getElem (by rw [HY.out]; omega)⟩
      have hc : wr.cell? ⟨g, j, none⟩ = some (.int .i64 y) := by
        have := World.ownsRow.cells hO (g := g) (by simp [Value.ownBlock]) j (.int .i64 y) (by simp [hy])
        rwa [add_head] at this
      have hf : wr.frozen? ⟨g, j, none⟩ = false := by
        have := HY.out
        have hO' : wr.ownsRow w1.heap.size 3 1 (.slice (some ⟨g, 0, none⟩) N.toNat c2) N.toNat (ints ys) := by rw [← this]; rw [← this] at hO; exact hO
        exact hO'.frozenAt j
      have HO := Lib.hid hO; clear hO
      have HYJ := Lib.hid hy; clear hy
      go_wp2
      go_roundg k
      case measure => omega
      case rel =>
        show PushL _ _ _ _ _ _ _ _
        have h1 := hgb.out g (by simp [Value.ownBlock])
        refine ⟨j + 1, ys.set j (wrap64 (y + 1)), by first | rfl | (push_cast; rfl), by omega, by rw [List.length_set]; exact HY.out, ?_, fun b hb => ?_, by rw [World.size_setCell]; exact HSZ.out, hBr.setCell (by show w.heap.size ≤ g; omega) _⟩
        · have := HY.out
          have hO' : wr.ownsRow w1.heap.size 3 1 (.slice (some ⟨g, 0, none⟩) N.toNat c2) N.toNat (ints ys) := by have hx := HO.out; unfold Own at hx; rw [this] at hx; exact hx
          have := (hO'.stored j (.int .i64 (wrap64 (y + 1)))).1
          unfold Own
          rw [List.length_set, HY.out]
          simpa [List.map_set] using this
        · have hbg : b ≠ g := by rintro rfl; exact hb (by simp [Value.ownBlock])
          rw [Below.heap_setCell _ _ _ _ (by exact hbg)]
          exact HF.out b hb
    | zero =>
      obtain rfl : j = N.toNat := by omega
      clear hj
      have HO := Lib.hid hO; clear hO
      have hne0 : some w.heap.size ≠ (Value.slice A2 N.toNat c2).ownBlock := fun e => by have := hgb.out _ e.symm; omega
      have hne2 : some (w.heap.size + 1 + 1) ≠ (Value.slice A2 N.toNat c2).ownBlock := fun e => by have := hgb.out _ e.symm; omega
      have B0 : wr.heap[w.heap.size]? = some (.cells #[.int .i64 n', .int .i64 L', .pointer p', .slice A' m' c'] VT (0, 0)) := (HF.out _ hne0).trans (put4 HB0.out)
      have h22 : w.heap.size + 1 + 1 ≠ w.heap.size := by omega
      have B2 : wr.heap[w.heap.size + 1 + 1]? = some (.cells #[.int .i64 0, .int .i64 0, .pointer none, .slice none 0 0] VT (0, 0)) := (HF.out _ hne2).trans (blk_far (blk_far (blk_far (blk_far HB2.out h22 _) h22 _) h22 _) h22 _)
      have hVr : VRep (New K w2) wr (vec n' L' p' (.slice A' m' c')) (l ++ runL X N.toNat) := by
        have h1 : VRep (fun b => New K w2 b ∧ (b < w.heap.size ∨ w2.heap.size ≤ b)) (put4w w3 w.heap.size (.int .i64 n') (.int .i64 L') (.pointer p') (.slice A' m' c')) (vec n' L' p' (.slice A' m' c')) (l ++ runL X N.toNat) := by
          have h0 := HV3.out.mono (K' := fun b => New K w2 b ∧ (b < w.heap.size ∨ w2.heap.size ≤ b)) fun b hb => ⟨hb, hb.imp (HK.out b) id⟩
          have hn : ¬ (New K w2 w.heap.size ∧ (w.heap.size < w.heap.size ∨ w2.heap.size ≤ w.heap.size)) := fun h => by omega
          exact vrep_far (vrep_far (vrep_far (vrep_far h0 _ _ _ hn) _ _ _ hn) _ _ _ hn) _ _ _ hn
        exact h1.keep (fun b h => h.1) fun b h _ => HF.out b fun e => by have := hgb.out _ e.symm; omega
      have hSr : SlV K wr (.slice As ns cs) (ints l) := HS.out.below hBr
      have hMr : SlV (fun b => w.heap.size + 3 ≤ b) wr (.slice A1 n1 c1) (ints (runL X N.toNat)) := by
        have h0 := (HO1.out.slv.bound.mono (K' := fun b => w.heap.size + 3 ≤ b ∧ b < w1.heap.size) fun b h => by simpa using h)
        have h1 := (h0.below hb2).below hb3
        have hn : ¬ (w.heap.size + 3 ≤ w.heap.size ∧ w.heap.size < w1.heap.size) := fun h => by omega
        exact (((slv_far (slv_far (slv_far (slv_far h1 _ 0 (.int .i64 n') hn) _ 1 (.int .i64 L') hn) _ 2 (.pointer p') hn) _ 3 (.slice A' m' c') hn).keep fun b h _ => HF.out b fun e => by have := hgb.out _ e.symm; omega)).mono fun b h => h.1
      have hszr : w3.heap.size = wr.heap.size := by have := HSZ.out; simpa using this.symm
      clear HB0 HB2 HV3 HS HO1 HO2 HOW HF HSZ HY HO hB1 hB2 hB3 k0 k1 k2 k3 f0 f1 f2 f3 HV hb1 hb2 hb3
      obtain ⟨⟨k0, k1, k2, k3⟩, f0, f1, f2, f3⟩ := box4 B0
      obtain ⟨⟨r0, r1, r2, r3⟩, e0, e1, e2, e3⟩ := box4 B2
      have HB0 := Lib.hid B0; clear B0
      have HB2 := Lib.hid B2; clear B2
      have HVR := Lib.hid hVr; clear hVr
      have HSR := Lib.hid hSr; clear hSr
      have HMR := Lib.hid hMr; clear hMr
      have HCP := Lib.hid (fun W (hw : Below wr.heap.size wr W) => copied_c K (.slice As ns cs) l (by have := HL.out; omega) W (HSR.out.below hw))
      have H02 := Lib.hid (show w.heap.size ≠ w.heap.size + 1 + 1 by omega)
      have HLB : Hid ((l.length + (ints (runL X N.toNat)).length) * 8 ≤ 140737488355328) := Lib.hid (by have := HL.out; simp; omega)
      go_wp2_with fail
      go_region_held3 (fun w' => w'.cell? ⟨w.heap.size, 0, none⟩ = some (.int .i64 n') ∧ w'.cell? ⟨w.heap.size, 1, none⟩ = some (.int .i64 L') ∧ w'.cell? ⟨w.heap.size, 2, none⟩ = some (.pointer p') ∧ w'.cell? ⟨w.heap.size, 3, none⟩ = some (.slice A' m' c'))
        ((refine ⟨?_, ?_, ?_, ?_⟩ <;> first | (with_reducible exact cell_below k0 (by assumption)) | (with_reducible exact cell_below k1 (by assumption)) | (with_reducible exact cell_below k2 (by assumption)) | (with_reducible exact cell_below k3 (by assumption)) | (with_reducible refine (blk_cell (blk_far (blk_far (blk_far (blk_far (blk_below HB0.out hb6) H02.out _) H02.out _) H02.out _) H02.out _) _).trans ?_; rfl) | (go_keep; done)))
        (first
          | (go_at_call 29; (with_reducible refine (HCP.out wr.drew (Below.refl _ _).drew).mono ?_); rintro e w5 ⟨v, rfl, hO5, hb5⟩; have hwr5 : Below wr.heap.size wr w5 := below_trans (w1 := wr.drew) (Below.refl _ _).drew hb5)
          | (have hM5 := HMR.out.below hwr5; have hsz5 := Below.size hb5; refine step_append_slv (o := ⟨some 49, _, _, _, _, _⟩) ?_ (.tmp 47) (.tmp 48) 24 3 (.int .i64 0) 8 ?_ Try.underlying24 info_int ?_ ?_ _ v l.length (ints l) (ints (runL X N.toNat)) A1 n1 c1 (fun b => w.heap.size + 3 ≤ b) ?_ ?_ hO5 hM5 hsz5 HLB.out ?_; (rfl); (rfl); (rfl); (decide); (rfl); (rfl); intro v6 w6 hO6 hg6 hat6; have hb6 : Below wr.heap.size wr w6 := below_grown hwr5 hg6 hO5 (Nat.le_refl _); have HB26 := Lib.hid (blk_below HB2.out hb6); obtain ⟨⟨r0, r1, r2, r3⟩, e0, e1, e2, e3⟩ := box4 HB26.out)
          | fail)
      go_wp2_with fail
      refine bodyPost_ret (results_vt3 rfl _ _ (w.heap.size + 1 + 1) #[.int .i64 n', .int .i64 L', .pointer p', .slice A' m' c'] v6 (.bool true) rfl rfl (put4 HB26.out) rfl rfl) rfl ?_
      have hB6 : Below w.heap.size w w6 := below_trans hBr hb6
      have hwr : w3.heap.size = wr.heap.size := hszr
      have hnv : ¬ New K w2 (w.heap.size + 1 + 1) := fun h => h.elim (fun h => by have := HK.out _ h; omega) (fun h => by omega)
      have hns : ¬ (fun b => wr.drew.heap.size ≤ b) (w.heap.size + 1 + 1) := fun h => by have h' : wr.heap.size ≤ w.heap.size + 1 + 1 := h; omega
      have hV6 := HVR.out.below hb6
      have hS6 := SlV.of_row hO6 (by rw [← List.map_append]; exact ints_one _)
      rw [← List.map_append] at hS6
      refine ⟨_, rfl, ⟨_, _, rfl, (vrep_far (vrep_far (vrep_far (vrep_far hV6 _ _ _ hnv) _ _ _ hnv) _ _ _ hnv) _ _ _ hnv).mono fun b h => New.of (by omega) h, (slv_far (slv_far (slv_far (slv_far hS6 _ _ _ hns) _ _ _ hns) _ _ _ hns) _ _ _ hns).mono fun b h => New.fresh (by have h' : wr.heap.size ≤ b := h; show w.heap.size ≤ b; omega)⟩, ?_⟩
      have h2 : w.heap.size ≤ w.heap.size + 1 + 1 := by omega
      exact (((hB6.setCell h2 _).setCell h2 _).setCell h2 _).setCell h2 _
end Go.Proofs.Ytmoakgacffjblaa.Pv
end

section
namespace Go.Proofs.Ytmoakgacffjblaa.Pv
open Go Go.RowKit Go.Proofs.Ytmoakgacffjblaa.Mem Go.Proofs.YtmoakgacffjblaaW.PrintWords

theorem results_vt3' {fn : Func} {p a b : Tmp} (h : fn.results = #[.cell p VT, .tmp a, .tmp b]) (tmps : Array Value) (w : World) (g : Nat) (x0 x1 x2 x3 : Value) (va vb : Value) (hp : tmps.getD p undef = .pointer (some ⟨g, 0, none⟩)) (hg : w.heap[g]? = some (.cells #[x0, x1, x2, x3] VT (0, 0))) (ha : tmps.getD a undef = va) (hb : tmps.getD b undef = vb) :
    (results fn tmps).run Try.prog w = .ok (.tuple #[.agg #[x0, x1, x2, x3], va, vb]) w :=
  results_vt3 h tmps w g _ va vb hp rfl hg ha hb

set_option maxRecDepth 500000 in
set_option maxHeartbeats 4000000 in
theorem does_else (K : Nat → Prop) (n L : Int) (p A : Option Addr) (m c : Nat) (As : Option Addr) (ns cs : Nat) (l : List Int) (D I X N : Int) (w : World) (hV : VRep K w (vec n L p (.slice A m c)) l) (hS : SlV K w (.slice As ns cs) (ints l)) (hK : ∀ b, K b → b < w.heap.size) (h0 : D ≠ 0) (h1 : D ≠ 1) (h2 : D ≠ 2) (h3 : D ≠ 3) :
    Calls Try.prog 19 #[vec n L p (.slice A m c), .slice As ns cs, .agg #[.int .i64 D, .int .i64 I, .int .i64 X, .int .i64 N]] w (Ret (DoesP (New K w) l) w) := by
  have HV := Lib.hid hV; clear hV
  have HS := Lib.hid hS; clear hS
  have HK := Lib.hid hK; clear hK
  have e0 : (D == 0) = false := beq_false_of_ne h0
  have e1 : (D == 1) = false := beq_false_of_ne h1
  have e2 : (D == 2) = false := beq_false_of_ne h2
  have e3 : (D == 3) = false := beq_false_of_ne h3
  clear h0 h1 h2 h3
  go_enter Try.func19, Try.ntmps19
  go_wp2_with fail
  refine bodyPost_ret (results_vt3' rfl _ _ (w.heap.size + 1 + 1) (.int .i64 n) (.int .i64 L) (.pointer p) (.slice A m c) (.slice As ns cs) (.bool true) rfl (heap_k2 w _ _ _) rfl rfl) rfl ?_
  have hB : Below w.heap.size w (((w.alloc (.cells #[.int .i64 n, .int .i64 L, .pointer p, .slice A m c] VT)).alloc (.cells #[.int .i64 D, .int .i64 I, .int .i64 X, .int .i64 N] 43)).alloc (.cells #[.int .i64 n, .int .i64 L, .pointer p, .slice A m c] VT)) := by go_grown
  exact ⟨_, rfl, ⟨_, _, rfl, (HV.out.mono fun b h => New.old h).below hB, (HS.out.mono fun b h => New.old h).below hB⟩, hB⟩

theorem cell_put4 {w : World} {g i g' : Nat} {u : Value} (h : w.cell? ⟨g, i, none⟩ = some u) (hne : g ≠ g') (a b c d : Value) : (put4w w g' a b c d).cell? ⟨g, i, none⟩ = some u := by
  refine (World.cell?_of_block ?_).trans h
  show (put4w w g' a b c d).heap[g]? = w.heap[g]?
  unfold put4w
  repeat rw [Below.heap_setCell _ _ _ _ (by exact hne)]

set_option maxRecDepth 500000 in
set_option maxHeartbeats 4000000 in
theorem does_keep (K : Nat → Prop) (n L : Int) (p A : Option Addr) (m c : Nat) (As : Option Addr) (ns cs : Nat) (l : List Int) (I X N : Int) (w : World) (hV : VRep K w (vec n L p (.slice A m c)) l) (hS : SlV K w (.slice As ns cs) (ints l)) (hK : ∀ b, K b → b < w.heap.size) (hl : l.length ≤ 500000) :
    Calls Try.prog 19 #[vec n L p (.slice A m c), .slice As ns cs, .agg #[.int .i64 3, .int .i64 I, .int .i64 X, .int .i64 N]] w (Ret (DoesP (New K w) (l.take (min (max N 0).toNat l.length))) w) := by
  have HV := Lib.hid hV; clear hV
  have HS := Lib.hid hS; clear hS
  have HK := Lib.hid hK; clear hK
  have HL := Lib.hid hl; clear hl
  go_enter Try.func19, Try.ntmps19
  go_wp2_with fail
  generalize hW : ((w.alloc (.cells #[.int .i64 n, .int .i64 L, .pointer p, .slice A m c] VT)).alloc (.cells #[.int .i64 3, .int .i64 I, .int .i64 X, .int .i64 N] 43)).alloc (.cells #[.int .i64 0, .int .i64 0, .pointer none, .slice none 0 0] VT) = W
  have hBW : Below w.heap.size w W := by rw [← hW]; go_grown
  have hSW : W.heap.size = w.heap.size + 3 := by rw [← hW]; simp
  have B0 : W.heap[w.heap.size]? = some (.cells #[.int .i64 n, .int .i64 L, .pointer p, .slice A m c] VT (0, 0)) := by rw [← hW]; exact blk_alloc (blk_alloc (blk_new w _) _) _
  have B1 : W.heap[w.heap.size + 1]? = some (.cells #[.int .i64 3, .int .i64 I, .int .i64 X, .int .i64 N] 43 (0, 0)) := by rw [← hW]; exact blk_alloc (heap_k1 w _ _) _
  have B2 : W.heap[w.heap.size + 1 + 1]? = some (.cells #[.int .i64 0, .int .i64 0, .pointer none, .slice none 0 0] VT (0, 0)) := by rw [← hW]; exact heap_k2 w _ _ _
  clear hW
  obtain ⟨⟨k0, k1, k2, k3⟩, -, -, -, -⟩ := box4 B0
  obtain ⟨⟨-, -, -, k4⟩, -, -, -, -⟩ := box4 B1
  have HB2 := Lib.hid B2; clear B2 B0 B1
  have H02 := Lib.hid (show w.heap.size ≠ w.heap.size + 1 + 1 by omega)
  have H12 := Lib.hid (show w.heap.size + 1 ≠ w.heap.size + 1 + 1 by omega)
  have HCV := Lib.hid (fun V (hw : Below W.heap.size W V) => keep_c K (vec n L p (.slice A m c)) l N V ((HV.out.below hBW).below hw))
  have HCR := Lib.hid (fun V (hw : Below W.heap.size W V) => rkeep_c K (.slice As ns cs) l (by have := HL.out; omega) N V ((HS.out.below hBW).below hw))
  go_region_held3 (fun w' => w'.cell? ⟨w.heap.size, 0, none⟩ = some (.int .i64 n) ∧ w'.cell? ⟨w.heap.size, 1, none⟩ = some (.int .i64 L) ∧ w'.cell? ⟨w.heap.size, 2, none⟩ = some (.pointer p) ∧ w'.cell? ⟨w.heap.size, 3, none⟩ = some (.slice A m c) ∧ w'.cell? ⟨w.heap.size + 1, 3, none⟩ = some (.int .i64 N))
    ((refine ⟨?_, ?_, ?_, ?_, ?_⟩ <;> first | (with_reducible exact cell_below k0 (by assumption)) | (with_reducible exact cell_below k1 (by assumption)) | (with_reducible exact cell_below k2 (by assumption)) | (with_reducible exact cell_below k3 (by assumption)) | (with_reducible exact cell_below k4 (by assumption)) | (with_reducible exact cell_put4 (cell_below k0 (by assumption)) H02.out _ _ _ _) | (with_reducible exact cell_put4 (cell_below k1 (by assumption)) H02.out _ _ _ _) | (with_reducible exact cell_put4 (cell_below k2 (by assumption)) H02.out _ _ _ _) | (with_reducible exact cell_put4 (cell_below k3 (by assumption)) H02.out _ _ _ _) | (with_reducible exact cell_put4 (cell_below k4 (by assumption)) H12.out _ _ _ _) | (go_keep; done)))
    (first
      | (go_at_call 33; (with_reducible refine (HCV.out _ ?_).mono ?_); (first | (with_reducible assumption) | exact (Below.refl _ _).drew); rintro e w5 ⟨v, rfl, hV5, hb5⟩; have hw5 : Below W.heap.size W w5 := below_trans (by first | (with_reducible assumption) | exact (Below.refl _ _).drew) hb5; obtain ⟨n5, L5, p5, A5, m5, c5, rfl⟩ := vrep_form hV5; obtain ⟨⟨r0, r1, r2, r3⟩, e0, e1, e2, e3⟩ := box4 (blk_below HB2.out hw5))
      | (go_at_call 32; (with_reducible refine (HCR.out _ ?_).mono ?_); (first | (with_reducible assumption) | exact (Below.refl _ _).drew); rintro e w6 ⟨v, rfl, hO6, hb6⟩; have hw6 : Below W.heap.size W w6 := below_trans (by first | (with_reducible assumption) | exact (Below.refl _ _).drew) hb6; obtain ⟨A6, n6, c6, rfl⟩ := hO6.slv.form; obtain ⟨⟨r0, r1, r2, r3⟩, e0, e1, e2, e3⟩ := box4 (blk_below HB2.out hw6))
      | fail)
  go_wp2_with fail
  refine bodyPost_ret (results_vt3' rfl _ _ (w.heap.size + 1 + 1) (.int .i64 n5) (.int .i64 L5) (.pointer p5) (.slice A5 m5 c5) (.slice A6 n6 c6) (.bool true) rfl (put4 (blk_below HB2.out hw6)) rfl rfl) rfl ?_
  have hV6 := hV5.below hb6
  have hs5 : W.heap.size ≤ w5.heap.size := hw5.size
  have hnv : ¬ New K W.drew (w.heap.size + 1 + 1) := fun h => h.elim (fun h => by have := HK.out _ h; omega) (fun h => by have h' : W.heap.size ≤ w.heap.size + 1 + 1 := h; omega)
  have hns : ¬ (fun b => w5.heap.size ≤ b) (w.heap.size + 1 + 1) := fun h => by have h' : w5.heap.size ≤ w.heap.size + 1 + 1 := h; omega
  have hS6 := hO6.slv
  have hB6 : Below w.heap.size w w6 := below_trans hBW hw6
  refine ⟨_, rfl, ⟨_, _, rfl, (vrep_far (vrep_far (vrep_far (vrep_far hV6 _ _ _ hnv) _ _ _ hnv) _ _ _ hnv) _ _ _ hnv).mono fun b h => New.of hBW.size h, (slv_far (slv_far (slv_far (slv_far hS6 _ _ _ hns) _ _ _ hns) _ _ _ hns) _ _ _ hns).mono fun b h => New.fresh (by have h' : w5.heap.size ≤ b := h; show w.heap.size ≤ b; omega)⟩, ?_⟩
  have h2 : w.heap.size ≤ w.heap.size + 1 + 1 := by omega
  exact (((hB6.setCell h2 _).setCell h2 _).setCell h2 _).setCell h2 _

set_option maxRecDepth 500000 in
set_option maxHeartbeats 4000000 in
theorem does_set_no (K : Nat → Prop) (n L : Int) (p A : Option Addr) (m c : Nat) (As : Option Addr) (ns cs : Nat) (l : List Int) (I X N : Int) (w : World) (hV : VRep K w (vec n L p (.slice A m c)) l) (hS : SlV K w (.slice As ns cs) (ints l)) (hK : ∀ b, K b → b < w.heap.size) (hl : l.length ≤ 500000) (hI : ¬ (0 ≤ I ∧ I < l.length)) :
    Calls Try.prog 19 #[vec n L p (.slice A m c), .slice As ns cs, .agg #[.int .i64 1, .int .i64 I, .int .i64 X, .int .i64 N]] w (Ret (DoesP (New K w) l) w) := by
  have HCV := Lib.hid (fun V (hw : Below w.heap.size w V) => vset_no K (vec n L p (.slice A m c)) l I X V (hV.below hw) hI)
  have HCR := Lib.hid (fun V (hw : Below w.heap.size w V) => rset_no K (.slice As ns cs) l I X hI V (hS.below hw))
  have HV := Lib.hid hV; clear hV
  have HS := Lib.hid hS; clear hS
  have HK := Lib.hid hK; clear hK
  have HL := Lib.hid hl; clear hl hI
  go_enter Try.func19, Try.ntmps19
  go_wp2_with (first
    | (go_at_call 30; ((with_reducible refine (HCV.out _ (by go_grown)).mono ?_); rintro e w1 ⟨v, rfl, rfl, hb1⟩; have hB1 : Below w.heap.size w w1 := below_trans (by go_grown) hb1; have B1 := blk_below (blk_alloc (heap_k1 w _ _) _) hb1; obtain ⟨⟨k0, k1, k2, k3⟩, f0, f1, f2, f3⟩ := box4 B1; have HB1 := Lib.hid B1; clear B1; have HB0 := Lib.hid (blk_below (blk_alloc (blk_alloc (blk_new w _) _) _) hb1); have HB2 := Lib.hid (blk_below (heap_k2 w _ _ _) hb1); have hz1 : w.heap.size + 1 + 1 < w1.heap.size := blk_lt HB2.out; have g1 := fun o : Obj => cell_below k1 ((Below.refl w1.heap.size w1).alloc (Nat.le_refl _) o); have g2 := fun o : Obj => cell_below k2 ((Below.refl w1.heap.size w1).alloc (Nat.le_refl _) o)))
    | (go_at_call 31; ((with_reducible refine (HCR.out _ (hB1.alloc hB1.size _)).mono ?_); rintro e w2 ⟨v, rfl, ⟨vs, rfl, hO⟩, hb2⟩; obtain ⟨A6, n6, c6, rfl⟩ := hO.slv.form; have hB2 : Below w.heap.size w w2 := below_trans (hB1.alloc hB1.size _) hb2; have HB12 := Lib.hid (blk_below (blk_new w1 _) hb2); have HB02 := Lib.hid (blk_below (blk_alloc HB0.out _) hb2); have HB22 := Lib.hid (blk_below (blk_alloc HB2.out _) hb2); clear HB0 HB2 g1 g2)))
  obtain ⟨⟨k0, k1, k2, k3⟩, -, -, -, -⟩ := box4 HB02.out
  obtain ⟨⟨q0, q1, q2, q3⟩, -, -, -, -⟩ := box4 HB12.out
  have H02 := Lib.hid (show w.heap.size ≠ w.heap.size + 1 + 1 by omega)
  have H12 := Lib.hid (show w1.heap.size ≠ w.heap.size + 1 + 1 by omega)
  go_region_held3 (fun w' => w'.cell? ⟨w.heap.size, 0, none⟩ = some (.int .i64 n) ∧ w'.cell? ⟨w.heap.size, 1, none⟩ = some (.int .i64 L) ∧ w'.cell? ⟨w.heap.size, 2, none⟩ = some (.pointer p) ∧ w'.cell? ⟨w.heap.size, 3, none⟩ = some (.slice A m c) ∧ w'.cell? ⟨w1.heap.size, 0, none⟩ = some (.int .i64 0) ∧ w'.cell? ⟨w1.heap.size, 1, none⟩ = some (.int .i64 0) ∧ w'.cell? ⟨w1.heap.size, 2, none⟩ = some (.pointer none) ∧ w'.cell? ⟨w1.heap.size, 3, none⟩ = some (.slice none 0 0))
    ((refine ⟨?_, ?_, ?_, ?_, ?_, ?_, ?_, ?_⟩ <;> first | (with_reducible exact cell_below k0 (by assumption)) | (with_reducible exact cell_below k1 (by assumption)) | (with_reducible exact cell_below k2 (by assumption)) | (with_reducible exact cell_below k3 (by assumption)) | (with_reducible exact cell_below q0 (by assumption)) | (with_reducible exact cell_below q1 (by assumption)) | (with_reducible exact cell_below q2 (by assumption)) | (with_reducible exact cell_below q3 (by assumption)) | (with_reducible exact cell_put4 (cell_below k0 (by assumption)) H02.out _ _ _ _) | (with_reducible exact cell_put4 (cell_below k1 (by assumption)) H02.out _ _ _ _) | (with_reducible exact cell_put4 (cell_below k2 (by assumption)) H02.out _ _ _ _) | (with_reducible exact cell_put4 (cell_below k3 (by assumption)) H02.out _ _ _ _) | (with_reducible exact cell_put4 (cell_below q0 (by assumption)) H12.out _ _ _ _) | (with_reducible exact cell_put4 (cell_below q1 (by assumption)) H12.out _ _ _ _) | (with_reducible exact cell_put4 (cell_below q2 (by assumption)) H12.out _ _ _ _) | (with_reducible exact cell_put4 (cell_below q3 (by assumption)) H12.out _ _ _ _) | (go_keep; done)))
    (first
      | (go_at_call 16; (with_reducible refine (len_r _ _ _ _ (zero_vec (fun _ => False) _)).mono ?_); rintro e w5 ⟨v, rfl, rfl, hb5⟩; have hw5 : Below w2.heap.size w2 w5 := below_trans (Below.refl _ _).drew hb5; obtain ⟨⟨r0, r1, r2, r3⟩, e0, e1, e2, e3⟩ := box4 (blk_below HB22.out hw5))
      | fail)
  go_wp2_with fail
  refine bodyPost_ret (results_vt3' rfl _ _ (w.heap.size + 1 + 1) (.int .i64 n) (.int .i64 L) (.pointer p) (.slice A m c) (.slice As ns cs) (.bool true) rfl (put4 (blk_below HB22.out hw5)) rfl rfl) rfl ?_
  have hnv : ¬ K (w.heap.size + 1 + 1) := fun h => by have := HK.out _ h; omega
  have hB5 : Below w.heap.size w w5 := below_trans hB2 hw5
  refine ⟨_, rfl, ⟨_, _, rfl, (vrep_far (vrep_far (vrep_far (vrep_far (HV.out.below hB5) _ _ _ hnv) _ _ _ hnv) _ _ _ hnv) _ _ _ hnv).mono fun b h => New.old h, (slv_far (slv_far (slv_far (slv_far (HS.out.below hB5) _ _ _ hnv) _ _ _ hnv) _ _ _ hnv) _ _ _ hnv).mono fun b h => New.old h⟩, ?_⟩
  have h2 : w.heap.size ≤ w.heap.size + 1 + 1 := by omega
  exact (((hB5.setCell h2 _).setCell h2 _).setCell h2 _).setCell h2 _

set_option maxRecDepth 500000 in
set_option maxHeartbeats 4000000 in
theorem does_set_in (K : Nat → Prop) (n L : Int) (p A : Option Addr) (m c : Nat) (As : Option Addr) (ns cs : Nat) (l : List Int) (I X N : Int) (w : World) (hV : VRep K w (vec n L p (.slice A m c)) l) (hS : SlV K w (.slice As ns cs) (ints l)) (hK : ∀ b, K b → b < w.heap.size) (hl : l.length ≤ 500000) (hI : 0 ≤ I ∧ I < l.length) :
    Calls Try.prog 19 #[vec n L p (.slice A m c), .slice As ns cs, .agg #[.int .i64 1, .int .i64 I, .int .i64 X, .int .i64 N]] w (Ret (DoesP (New K w) (l.set I.toNat X)) w) := by
  have HCV := Lib.hid (fun V (hw : Below w.heap.size w V) => vset_in K (vec n L p (.slice A m c)) l I X V (hV.below hw) hI)
  have HCR := Lib.hid (fun V (hw : Below w.heap.size w V) => rset_in K (.slice As ns cs) l (by omega) I X hI V (hS.below hw))
  have HV := Lib.hid hV; clear hV
  have HS := Lib.hid hS; clear hS
  have HK := Lib.hid hK; clear hK
  have HL := Lib.hid hl; clear hl hI
  go_enter Try.func19, Try.ntmps19
  go_wp2_with (first
    | (go_at_call 30; ((with_reducible refine (HCV.out _ (by go_grown)).mono ?_); rintro e w1 ⟨v, rfl, ⟨vv, rfl, hV1⟩, hb1⟩; obtain ⟨n1, L1, p1, A1, m1, c1, rfl⟩ := vrep_form hV1; have HV1 := Lib.hid hV1; clear hV1; have hB1 : Below w.heap.size w w1 := below_trans (by go_grown) hb1; have B1 := blk_below (blk_alloc (heap_k1 w _ _) _) hb1; obtain ⟨⟨k0, k1, k2, k3⟩, f0, f1, f2, f3⟩ := box4 B1; have HB1 := Lib.hid B1; clear B1; have HB2 := Lib.hid (blk_below (heap_k2 w _ _ _) hb1); have hz1 : w.heap.size + 1 + 1 < w1.heap.size := blk_lt HB2.out; have g1 := fun o : Obj => cell_below k1 ((Below.refl w1.heap.size w1).alloc (Nat.le_refl _) o); have g2 := fun o : Obj => cell_below k2 ((Below.refl w1.heap.size w1).alloc (Nat.le_refl _) o)))
    | (go_at_call 31; ((with_reducible refine (HCR.out _ (hB1.alloc hB1.size _)).mono ?_); rintro e w2 ⟨v, rfl, ⟨vs, rfl, hO⟩, hb2⟩; obtain ⟨A6, n6, c6, rfl⟩ := hO.slv.form; have HO := Lib.hid hO; clear hO; have hB2 : Below w.heap.size w w2 := below_trans (hB1.alloc hB1.size _) hb2; have B12 := blk_below (blk_new w1 _) hb2; obtain ⟨⟨q0, q1, q2, q3⟩, -, -, -, -⟩ := box4 B12; clear B12; have HB22 := Lib.hid (blk_below (blk_alloc HB2.out _) hb2); obtain ⟨⟨r0, r1, r2, r3⟩, e0, e1, e2, e3⟩ := box4 HB22.out; have HV2 := Lib.hid ((HV1.out.below ((Below.refl _ _).alloc (Nat.le_refl _) _)).below hb2); clear HB2 g1 g2 HV1)))
  refine bodyPost_ret (results_vt3' rfl _ _ (w.heap.size + 1 + 1) (.int .i64 n1) (.int .i64 L1) (.pointer p1) (.slice A1 m1 c1) (.slice A6 n6 c6) (.bool true) rfl (put4 HB22.out) rfl rfl) rfl ?_
  have hs : (w1.alloc (.cells #[.int .i64 n1, .int .i64 L1, .pointer p1, .slice A1 m1 c1] VT)).heap.size = w1.heap.size + 1 := World.size_alloc _ _
  have hnv : ¬ New K (((w.alloc (.cells #[.int .i64 n, .int .i64 L, .pointer p, .slice A m c] VT)).alloc (.cells #[.int .i64 1, .int .i64 I, .int .i64 X, .int .i64 N] 43)).alloc (.cells #[.int .i64 0, .int .i64 0, .pointer none, .slice none 0 0] VT)) (w.heap.size + 1 + 1) := fun h => h.elim (fun h => by have := HK.out _ h; omega) (fun h => by simp at h; omega)
  have hns : ¬ (fun b => (w1.alloc (.cells #[.int .i64 n1, .int .i64 L1, .pointer p1, .slice A1 m1 c1] VT)).heap.size ≤ b) (w.heap.size + 1 + 1) := fun h => by have h' : _ ≤ w.heap.size + 1 + 1 := h; omega
  have hS6 := HO.out.slv
  refine ⟨_, rfl, ⟨_, _, rfl, (vrep_far (vrep_far (vrep_far (vrep_far HV2.out _ _ _ hnv) _ _ _ hnv) _ _ _ hnv) _ _ _ hnv).mono fun b h => New.of (by simp; omega) h, (slv_far (slv_far (slv_far (slv_far hS6 _ _ _ hns) _ _ _ hns) _ _ _ hns) _ _ _ hns).mono fun b h => New.fresh (by have h' : w1.heap.size + 1 ≤ b := (by simpa using h); have := hB1.size; show w.heap.size ≤ b; omega)⟩, ?_⟩
  have h2 : w.heap.size ≤ w.heap.size + 1 + 1 := by omega
  exact (((hB2.setCell h2 _).setCell h2 _).setCell h2 _).setCell h2 _
end Go.Proofs.Ytmoakgacffjblaa.Pv
end

section
namespace Go.Proofs.Ytmoakgacffjblaa.Pv
open Go Go.RowKit Go.Proofs.Ytmoakgacffjblaa.Mem Go.Proofs.YtmoakgacffjblaaW.PrintWords

theorem keep_last (m : Nat) (h : m ≤ 500000) (x : Int) (ys : List Int) (hm : ys.length = m) : ys ++ [x] = ys ++ [x] ∧ (ys ++ [x]).take (min (max (IntKind.i64.wrap (m : Int)) 0).toNat (ys ++ [x]).length) = ys := by
  have h1 : IntKind.i64.wrap (m : Int) = (m : Int) := by rw [IntKind.wrap_i64]; omega
  have h2 : (min (max (m : Int) 0).toNat (ys ++ [x]).length) = ys.length := by rw [List.length_append, hm]; simp
  rw [h1, h2]
  exact ⟨rfl, List.take_left⟩

/-- what holds at each round's head -/
def PopsI (K : Nat → Prop) (w : World) (l : List Int) (T k : Nat) (v1 v89 : Value) (wr : World) : Prop :=
  ∃ (j : Nat) (l' : List Int) (n L : Int) (p A : Option Addr) (m c : Nat) (As : Option Addr) (ns cs : Nat), v1 = .slice As ns cs ∧ v89 = .int .i64 (j : Int) ∧ j + k = T ∧ l' = l.take (l.length - j) ∧
    VRep (fun b => K b ∨ w.heap.size + 2 < b) wr (vec n L p (.slice A m c)) l' ∧ SlV (fun b => K b ∨ w.heap.size + 2 < b) wr (.slice As ns cs) (ints l') ∧
    wr.heap[w.heap.size]? = some (.cells #[.int .i64 n, .int .i64 L, .pointer p, .slice A m c] VT (0, 0)) ∧ wr.heap[w.heap.size + 1 + 1]? = some (.cells #[.int .i64 0, .int .i64 0, .pointer none, .slice none 0 0] VT (0, 0)) ∧ Below w.heap.size w wr

theorem pops_end (K : Nat → Prop) (w : World) (l l' : List Int) (n L : Int) (p A : Option Addr) (m c : Nat) (As : Option Addr) (ns cs : Nat) (wr : World) (hK : ∀ b, K b → b < w.heap.size)
    (hV : VRep (fun b => K b ∨ w.heap.size + 2 < b) wr (vec n L p (.slice A m c)) l') (hS : SlV (fun b => K b ∨ w.heap.size + 2 < b) wr (.slice As ns cs) (ints l')) (hB : Below w.heap.size w wr) (hl : l' = l) :
    Ret (DoesP (New K w) l) w (.returned (.tuple #[vec n L p (.slice A m c), .slice As ns cs, .bool true])) (put4w wr (w.heap.size + 1 + 1) (.int .i64 n) (.int .i64 L) (.pointer p) (.slice A m c)) := by
  subst hl
  have hn : ¬ (fun b => K b ∨ w.heap.size + 2 < b) (w.heap.size + 1 + 1) := fun h => h.elim (fun h => by have := hK _ h; omega) (fun h => by omega)
  have h2 : w.heap.size ≤ w.heap.size + 1 + 1 := by omega
  refine ⟨_, rfl, ⟨_, _, rfl, (vrep_far (vrep_far (vrep_far (vrep_far hV _ _ _ hn) _ _ _ hn) _ _ _ hn) _ _ _ hn).mono fun b h => h.imp id (fun h => by omega), (slv_far (slv_far (slv_far (slv_far hS _ _ _ hn) _ _ _ hn) _ _ _ hn) _ _ _ hn).mono fun b h => h.imp id (fun h => by omega)⟩, ?_⟩
  exact (((hB.setCell h2 _).setCell h2 _).setCell h2 _).setCell h2 _

set_option maxRecDepth 500000 in
set_option maxHeartbeats 4000000 in
theorem does_pop_neg (K : Nat → Prop) (n L : Int) (p A : Option Addr) (m c : Nat) (As : Option Addr) (ns cs : Nat) (l : List Int) (I X N : Int) (w : World) (hV : VRep K w (vec n L p (.slice A m c)) l) (hS : SlV K w (.slice As ns cs) (ints l)) (hK : ∀ b, K b → b < w.heap.size) (hN : N < 0) :
    Calls Try.prog 19 #[vec n L p (.slice A m c), .slice As ns cs, .agg #[.int .i64 2, .int .i64 I, .int .i64 X, .int .i64 N]] w (Ret (DoesP (New K w) l) w) := by
  have HV := Lib.hid hV; clear hV
  have HS := Lib.hid hS; clear hS
  have HK := Lib.hid hK; clear hK
  go_enter Try.func19, Try.ntmps19
  go_wp2_with fail
  refine wp_loop_rounds 1 ?_
  rw [rounds_succ]
  go_wp2_with fail
  have hB : Below w.heap.size w (((w.alloc (.cells #[.int .i64 n, .int .i64 L, .pointer p, .slice A m c] VT)).alloc (.cells #[.int .i64 2, .int .i64 I, .int .i64 X, .int .i64 N] 43)).alloc (.cells #[.int .i64 n, .int .i64 L, .pointer p, .slice A m c] VT)) := by go_grown
  refine bodyPost_ret (results_vt3' rfl _ _ (w.heap.size + 1 + 1) (.int .i64 n) (.int .i64 L) (.pointer p) (.slice A m c) (.slice As ns cs) (.bool true) rfl (heap_k2 w _ _ _) rfl rfl) rfl ?_
  exact ⟨_, rfl, ⟨_, _, rfl, (HV.out.mono fun b h => New.old h).below hB, (HS.out.mono fun b h => New.old h).below hB⟩, hB⟩

set_option maxRecDepth 500000 in
set_option maxHeartbeats 4000000 in
theorem does_pop (K : Nat → Prop) (n L : Int) (p A : Option Addr) (m c : Nat) (As : Option Addr) (ns cs : Nat) (l : List Int) (I X : Int) (T : Nat) (w : World) (hV : VRep K w (vec n L p (.slice A m c)) l) (hS : SlV K w (.slice As ns cs) (ints l)) (hK : ∀ b, K b → b < w.heap.size) (hN : T ≤ 10000) (hl : l.length ≤ 500000) :
    Calls Try.prog 19 #[vec n L p (.slice A m c), .slice As ns cs, .agg #[.int .i64 2, .int .i64 I, .int .i64 X, .int .i64 (T : Int)]] w (Ret (DoesP (New K w) (l.take (l.length - T))) w) := by
  have HV := Lib.hid hV; clear hV
  have HS := Lib.hid hS; clear hS
  have HK := Lib.hid hK; clear hK
  have HL := Lib.hid hl; clear hl
  have hT0 : (0 : Int) ≤ (T : Int) := by omega
  go_enter Try.func19, Try.ntmps19
  go_wp2_with fail
  go_loopg [1, 89] T (fun k v1 v89 wr => Aside (PopsI K w l T k v1 v89 wr))
  case atStart =>
    show PopsI K w l T _ _ _ _
    have hB : Below w.heap.size w (((w.alloc (.cells #[.int .i64 n, .int .i64 L, .pointer p, .slice A m c] VT)).alloc (.cells #[.int .i64 2, .int .i64 I, .int .i64 X, .int .i64 (T : Int)] 43)).alloc (.cells #[.int .i64 0, .int .i64 0, .pointer none, .slice none 0 0] VT)) := by go_grown
    exact ⟨0, l, n, L, p, A, m, c, As, ns, cs, rfl, rfl, by omega, by simp, (HV.out.mono fun b h => Or.inl h).below hB, (HS.out.mono fun b h => Or.inl h).below hB, blk_alloc (blk_alloc (blk_new w _) _) _, heap_k2 w _ _ _, hB⟩
  case round =>
    obtain ⟨j, l', n', L', p', A', m', c', As', ns', cs', rfl, rfl, hj, hl', hV, hS, BK, BR, hB⟩ := hrel.out
    clear hrel
    have HBK := Lib.hid BK; clear BK
    have HBR := Lib.hid BR; clear BR
    have HV2 := Lib.hid hV; clear hV
    have HS2 := Lib.hid hS; clear hS
    have HL2 := Lib.hid hl'; clear hl'
    have hsz : w.heap.size + 1 + 1 < wr.heap.size := blk_lt HBR.out
    obtain ⟨⟨k0, k1, k2, k3⟩, f0, f1, f2, f3⟩ := box4 HBK.out
    obtain ⟨⟨r0, r1, r2, r3⟩, e0, e1, e2, e3⟩ := box4 HBR.out
    have h20 : w.heap.size + 1 + 1 ≠ w.heap.size := by omega
    cases gk with
    | zero =>
      obtain rfl : j = T := by omega
      clear hj
      go_wp2_with fail
      refine bodyPost_ret (results_vt3' rfl _ _ (w.heap.size + 1 + 1) (.int .i64 n') (.int .i64 L') (.pointer p') (.slice A' m' c') (.slice As' ns' cs') (.bool true) rfl (put4 HBR.out) rfl rfl) rfl ?_
      exact pops_end K w _ l' n' L' p' A' m' c' As' ns' cs' wr HK.out HV2.out HS2.out hB HL2.out
    | succ k =>
      have hjT : (j : Int) < (T : Int) := by omega
      have hcc : l' = [] ∨ ∃ ys x, l' = ys ++ [x] := by
        rcases List.eq_nil_or_concat l' with h | ⟨ys, x, h⟩
        · exact Or.inl h
        · exact Or.inr ⟨ys, x, by rw [h, List.concat_eq_append]⟩
      rcases hcc with rfl | ⟨ys, x, rfl⟩
      · obtain rfl : ns' = 0 := HS2.out.len
        go_wp2_with (first
          | (go_at_call 15; ((with_reducible refine (pop_nil _ _ _ HV2.out).mono ?_); rintro e w1 ⟨v, rfl, rfl, hb1⟩)))
        have HV1 := Lib.hid (HV2.out.below hb1)
        generalize hW : w1.alloc (.cells #[.int .i64 n', .int .i64 L', .pointer p', .slice A' m' c'] VT) = W
        have hBW : Below wr.heap.size wr W := by rw [← hW]; exact hb1.alloc hb1.size _
        have B16 : W.heap[w1.heap.size]? = some (.cells #[.int .i64 n', .int .i64 L', .pointer p', .slice A' m' c'] VT (0, 0)) := by rw [← hW]; exact blk_new w1 _
        have HV3 : Hid (VRep (fun b => K b ∨ w.heap.size + 2 < b) W (vec n' L' p' (.slice A' m' c')) []) := Lib.hid (by rw [← hW]; exact HV1.out.below ((Below.refl _ _).alloc (Nat.le_refl _) _))
        have hs1 : wr.heap.size ≤ w1.heap.size := hb1.size
        clear hW
        have HB0W := Lib.hid (blk_below HBK.out hBW)
        have HB2W := Lib.hid (blk_below HBR.out hBW)
        obtain ⟨⟨q0, q1, q2, q3⟩, -, -, -, -⟩ := box4 B16
        clear B16
        have H16 := Lib.hid (show w1.heap.size ≠ w.heap.size by omega)
        have HCR := Lib.hid (fun N V (hw : Below W.heap.size W V) => rkeep_c _ (.slice As' 0 cs') [] (by simp) N V ((HS2.out.below hBW).below hw))
        clear k0 k1 k2 k3 f0 f1 f2 f3 r0 r1 r2 r3 e0 e1 e2 e3
        go_region_held3 (fun w' => w'.cell? ⟨w1.heap.size, 0, none⟩ = some (.int .i64 n') ∧ w'.cell? ⟨w1.heap.size, 1, none⟩ = some (.int .i64 L') ∧ w'.cell? ⟨w1.heap.size, 2, none⟩ = some (.pointer p') ∧ w'.cell? ⟨w1.heap.size, 3, none⟩ = some (.slice A' m' c'))
          ((refine ⟨?_, ?_, ?_, ?_⟩ <;> first | (with_reducible exact cell_below q0 (by assumption)) | (with_reducible exact cell_below q1 (by assumption)) | (with_reducible exact cell_below q2 (by assumption)) | (with_reducible exact cell_below q3 (by assumption)) | (with_reducible exact cell_put4 (cell_below q0 (by assumption)) H16.out _ _ _ _) | (with_reducible exact cell_put4 (cell_below q1 (by assumption)) H16.out _ _ _ _) | (with_reducible exact cell_put4 (cell_below q2 (by assumption)) H16.out _ _ _ _) | (with_reducible exact cell_put4 (cell_below q3 (by assumption)) H16.out _ _ _ _) | (go_keep; done)))
          (first
            | (go_at_call 32; (with_reducible refine (HCR.out _ _ ?_).mono ?_); (exact (Below.refl _ _).drew); rintro e w6 ⟨v, rfl, hO6, hb6⟩; have hw6 : Below W.heap.size W w6 := below_trans (Below.refl _ _).drew hb6; obtain ⟨A6, n6, c6, rfl⟩ := hO6.slv.form; obtain ⟨⟨r0, r1, r2, r3⟩, e0, e1, e2, e3⟩ := box4 (blk_below HB0W.out hw6))
            | fail)
        generalize hW7 : (((w6.setCell ⟨w.heap.size, 0, none⟩ (.int .i64 n')).setCell ⟨w.heap.size, 1, none⟩ (.int .i64 L')).setCell ⟨w.heap.size, 2, none⟩ (.pointer p')).setCell ⟨w.heap.size, 3, none⟩ (.slice A' m' c') = W7
        have hB7 : Below w.heap.size w W7 := by
          rw [← hW7]
          have h6 := below_trans (below_trans hB hBW) hw6
          exact (((h6.setCell (Nat.le_refl _) _).setCell (Nat.le_refl _) _).setCell (Nat.le_refl _) _).setCell (Nat.le_refl _) _
        have HB07 : Hid (W7.heap[w.heap.size]? = some (.cells #[.int .i64 n', .int .i64 L', .pointer p', .slice A' m' c'] VT (0, 0))) := Lib.hid (by rw [← hW7]; exact put4 (blk_below HB0W.out hw6))
        have HB27 : Hid (W7.heap[w.heap.size + 1 + 1]? = some (.cells #[.int .i64 0, .int .i64 0, .pointer none, .slice none 0 0] VT (0, 0))) := Lib.hid (by rw [← hW7]; exact blk_far (blk_far (blk_far (blk_far (blk_below HB2W.out hw6) h20 _) h20 _) h20 _) h20 _)
        have hnK : ¬ (fun b => K b ∨ w.heap.size + 2 < b) w.heap.size := fun h => h.elim (fun h => by have := HK.out _ h; omega) (fun h => by omega)
        have hsW : w1.heap.size < W.heap.size := World.block_lt_of_cell? W _ q0
        have HV7 : Hid (VRep (fun b => K b ∨ w.heap.size + 2 < b) W7 (vec n' L' p' (.slice A' m' c')) []) := Lib.hid (by rw [← hW7]; exact vrep_far (vrep_far (vrep_far (vrep_far (HV3.out.below hw6) _ _ _ hnK) _ _ _ hnK) _ _ _ hnK) _ _ _ hnK)
        have HS7 : Hid (SlV (fun b => K b ∨ w.heap.size + 2 < b) W7 (.slice A6 n6 c6) (ints [])) := Lib.hid (by
          rw [← hW7]
          have h6 := hO6.slv.mono (K' := fun b => K b ∨ w.heap.size + 2 < b) (fun b h => Or.inr (by have h' : W.heap.size ≤ b := h; omega))
          simp only [List.take_nil] at h6
          exact slv_far (slv_far (slv_far (slv_far h6 _ _ _ hnK) _ _ _ hnK) _ _ _ hnK) _ _ _ hnK)
        clear hW7 hnK HB0W HB2W HBK HBR HV3 HV1 HV2 HS2 hO6 r0 r1 r2 r3 e0 e1 e2 e3 q0 q1 q2 q3 hb6 hw6 hBW hB hb1 HCR H16
        obtain ⟨⟨k0, k1, k2, k3⟩, -, -, -, -⟩ := box4 HB07.out
        obtain ⟨⟨r0, r1, r2, r3⟩, e0, e1, e2, e3⟩ := box4 HB27.out
        go_wp2_with fail
        refine bodyPost_ret (results_vt3' rfl _ _ (w.heap.size + 1 + 1) (.int .i64 n') (.int .i64 L') (.pointer p') (.slice A' m' c') (.slice A6 n6 c6) (.bool true) rfl (put4 HB27.out) rfl rfl) rfl ?_
        exact pops_end K w _ [] n' L' p' A' m' c' A6 n6 c6 W7 HK.out HV7.out HS7.out hB7 (by have h1 := congrArg List.length HL2.out; simp at h1; rw [show l.length - T = 0 by omega]; rfl)
      · obtain rfl : ns' = ys.length + 1 := by have := HS2.out.len; simpa using this
        obtain ⟨ad, rfl, hcell⟩ := HS2.out.addr (by simp)
        have hcx := hcell ys.length (.int .i64 x) (by simp)
        have hyl : ys.length ≤ 500000 := by have h1 := congrArg List.length HL2.out; have h2 := HL.out; simp at h1; omega
        clear hcell
        go_wp2_with (first
          | (go_at_call 15; ((with_reducible refine (pop_c' _ _ _ _ _ HV2.out).mono ?_); rintro e w1 ⟨v, rfl, ⟨u, rfl, hV1⟩, hb1⟩; obtain ⟨n1, L1, p1, A1, m1, c1, rfl⟩ := vrep_form hV1; have HV1 := Lib.hid (hV1.mono (K' := fun b => K b ∨ w.heap.size + 2 < b) fun b h => h.elim id (fun h => Or.inr (by omega))); clear hV1; have g1 := fun o : Obj => cell_below (cell_below hcx hb1) ((Below.refl w1.heap.size w1).alloc (Nat.le_refl _) o))))
        clear g1
        generalize hW : w1.alloc (.cells #[.int .i64 n1, .int .i64 L1, .pointer p1, .slice A1 m1 c1] VT) = W
        have hBW : Below wr.heap.size wr W := by rw [← hW]; exact hb1.alloc hb1.size _
        have B16 : W.heap[w1.heap.size]? = some (.cells #[.int .i64 n1, .int .i64 L1, .pointer p1, .slice A1 m1 c1] VT (0, 0)) := by rw [← hW]; exact blk_new w1 _
        have HV3 : Hid (VRep (fun b => K b ∨ w.heap.size + 2 < b) W (vec n1 L1 p1 (.slice A1 m1 c1)) ys) := Lib.hid (by rw [← hW]; exact HV1.out.below ((Below.refl _ _).alloc (Nat.le_refl _) _))
        have hs1 : wr.heap.size ≤ w1.heap.size := hb1.size
        clear hW
        have HB0W := Lib.hid (blk_below HBK.out hBW)
        have HB2W := Lib.hid (blk_below HBR.out hBW)
        obtain ⟨⟨q0, q1, q2, q3⟩, -, -, -, -⟩ := box4 B16
        clear B16
        have H16 := Lib.hid (show w1.heap.size ≠ w.heap.size by omega)
        have HCR := Lib.hid (fun N V (hw : Below W.heap.size W V) => rkeep_c _ (.slice (some ad) (ys.length + 1) cs') (ys ++ [x]) (by simp; omega) N V ((HS2.out.below hBW).below hw))
        clear k0 k1 k2 k3 f0 f1 f2 f3 r0 r1 r2 r3 e0 e1 e2 e3
        go_region_held3 (fun w' => w'.cell? ⟨w1.heap.size, 0, none⟩ = some (.int .i64 n1) ∧ w'.cell? ⟨w1.heap.size, 1, none⟩ = some (.int .i64 L1) ∧ w'.cell? ⟨w1.heap.size, 2, none⟩ = some (.pointer p1) ∧ w'.cell? ⟨w1.heap.size, 3, none⟩ = some (.slice A1 m1 c1))
          ((refine ⟨?_, ?_, ?_, ?_⟩ <;> first | (with_reducible exact cell_below q0 (by assumption)) | (with_reducible exact cell_below q1 (by assumption)) | (with_reducible exact cell_below q2 (by assumption)) | (with_reducible exact cell_below q3 (by assumption)) | (with_reducible exact cell_put4 (cell_below q0 (by assumption)) H16.out _ _ _ _) | (with_reducible exact cell_put4 (cell_below q1 (by assumption)) H16.out _ _ _ _) | (with_reducible exact cell_put4 (cell_below q2 (by assumption)) H16.out _ _ _ _) | (with_reducible exact cell_put4 (cell_below q3 (by assumption)) H16.out _ _ _ _) | (go_keep; done)))
          (first
            | (go_at_call 32; (with_reducible refine (HCR.out _ _ ?_).mono ?_); (exact (Below.refl _ _).drew); rintro e w6 ⟨v, rfl, hO6, hb6⟩; have hw6 : Below W.heap.size W w6 := below_trans (Below.refl _ _).drew hb6; obtain ⟨A6, n6, c6, rfl⟩ := hO6.slv.form; obtain ⟨⟨r0, r1, r2, r3⟩, e0, e1, e2, e3⟩ := box4 (blk_below HB0W.out hw6))
            | fail)
        generalize hW7 : (((w6.setCell ⟨w.heap.size, 0, none⟩ (.int .i64 n1)).setCell ⟨w.heap.size, 1, none⟩ (.int .i64 L1)).setCell ⟨w.heap.size, 2, none⟩ (.pointer p1)).setCell ⟨w.heap.size, 3, none⟩ (.slice A1 m1 c1) = W7
        have hB7 : Below w.heap.size w W7 := by
          rw [← hW7]
          have h6 := below_trans (below_trans hB hBW) hw6
          exact (((h6.setCell (Nat.le_refl _) _).setCell (Nat.le_refl _) _).setCell (Nat.le_refl _) _).setCell (Nat.le_refl _) _
        have HB07 : Hid (W7.heap[w.heap.size]? = some (.cells #[.int .i64 n1, .int .i64 L1, .pointer p1, .slice A1 m1 c1] VT (0, 0))) := Lib.hid (by rw [← hW7]; exact put4 (blk_below HB0W.out hw6))
        have HB27 : Hid (W7.heap[w.heap.size + 1 + 1]? = some (.cells #[.int .i64 0, .int .i64 0, .pointer none, .slice none 0 0] VT (0, 0))) := Lib.hid (by rw [← hW7]; exact blk_far (blk_far (blk_far (blk_far (blk_below HB2W.out hw6) h20 _) h20 _) h20 _) h20 _)
        have hnK : ¬ (fun b => K b ∨ w.heap.size + 2 < b) w.heap.size := fun h => h.elim (fun h => by have := HK.out _ h; omega) (fun h => by omega)
        have hsW : w1.heap.size < W.heap.size := World.block_lt_of_cell? W _ q0
        have HV7 : Hid (VRep (fun b => K b ∨ w.heap.size + 2 < b) W7 (vec n1 L1 p1 (.slice A1 m1 c1)) ys) := Lib.hid (by rw [← hW7]; exact vrep_far (vrep_far (vrep_far (vrep_far (HV3.out.below hw6) _ _ _ hnK) _ _ _ hnK) _ _ _ hnK) _ _ _ hnK)
        have HS7 : Hid (SlV (fun b => K b ∨ w.heap.size + 2 < b) W7 (.slice A6 n6 c6) (ints ys)) := Lib.hid (by
          rw [← hW7]
          have h6 := hO6.slv.mono (K' := fun b => K b ∨ w.heap.size + 2 < b) (fun b h => Or.inr (by have h' : W.heap.size ≤ b := h; omega))
          have hk := (keep_last ys.length hyl x ys rfl).2
          rw [hk] at h6
          exact slv_far (slv_far (slv_far (slv_far h6 _ _ _ hnK) _ _ _ hnK) _ _ _ hnK) _ _ _ hnK)
        clear hW7 hnK HB0W HB2W HBK HBR HV3 HV1 HV2 HS2 hO6 r0 r1 r2 r3 e0 e1 e2 e3 q0 q1 q2 q3 hb6 hw6 hBW hB hb1 HCR H16
        obtain ⟨⟨k0, k1, k2, k3⟩, -, -, -, -⟩ := box4 HB07.out
        obtain ⟨⟨r0, r1, r2, r3⟩, e0, e1, e2, e3⟩ := box4 HB27.out
        go_wp2_with fail
        go_roundg k
        case measure => omega
        case rel =>
          show PopsI K w l T _ _ _ _
          refine ⟨j + 1, ys, n1, L1, p1, A1, m1, c1, A6, n6, c6, rfl, by first | rfl | (push_cast; rfl), by omega, ?_, HV7.out, HS7.out, HB07.out, HB27.out, hB7⟩
          have h1 := HL2.out
          have h2 : (ys ++ [x]).length = l.length - j := by rw [h1, List.length_take]; omega
          have h3 := congrArg (List.take ys.length) h1
          rw [List.take_left, List.take_take] at h3
          rw [h3]
          congr 1
          simp at h2
          omega
end Go.Proofs.Ytmoakgacffjblaa.Pv
end

section
namespace Go.Proofs.Ytmoakgacffjblaa.Pv
open Go Go.RowKit Go.Proofs.Ytmoakgacffjblaa.Mem Go.Proofs.YtmoakgacffjblaaW.PrintWords

theorem vrep_bound {K : Nat → Prop} {w : World} {v : Value} {l : List Int} (h : VRep K w v l) : VRep (fun b => K b ∧ b < w.heap.size) w v l := by
  obtain ⟨n, L, p, A, m, c, xs, ys, h1, h2, h3, h4⟩ := h
  exact ⟨n, L, p, A, m, c, xs, ys, h1, h2, h3.bound, h4⟩

theorem doesP_mono {K K' : Nat → Prop} {l : List Int} {w : World} {e : Ending} {w' : World} (hK : ∀ b, K b → K' b) (h : Ret (DoesP K l) w e w') : Ret (DoesP K' l) w e w' := by
  obtain ⟨v, rfl, ⟨u, s, rfl, h1, h2⟩, hb⟩ := h
  exact ⟨_, rfl, ⟨u, s, rfl, h1.mono hK, h2.mono hK⟩, hb⟩

/-- WHAT AN OPERATION DOES. -/
theorem does_c (K : Nat → Prop) (v s : Value) (l : List Int) (D I X N : Int) (w : World) (hV : VRep K w v l) (hS : SlV K w s (ints l)) (hN : N ≤ 10000) (hl : l.length ≤ 500000) :
    Calls Try.prog 19 #[v, s, .agg #[.int .i64 D, .int .i64 I, .int .i64 X, .int .i64 N]] w (Ret (DoesP (New K w) (doesL l D I X N)) w) := by
  have hV' := vrep_bound hV
  have hS' := hS.bound
  obtain ⟨n, L, p, A, m, c, rfl⟩ := vrep_form hV
  obtain ⟨As, ns, cs, rfl⟩ := hS.form
  have hm : ∀ b, New (fun b => K b ∧ b < w.heap.size) w b → New K w b := fun b h => h.imp (fun h => h.1) id
  unfold doesL
  by_cases h0 : D = 0
  · subst h0
    rw [if_pos rfl]
    exact (does_push _ n L p A m c As ns cs l I X N w hV' hS' (fun b h => h.2) hN hl).mono fun e w' h => doesP_mono hm h
  rw [if_neg h0]
  by_cases h1 : D = 1
  · subst h1
    rw [if_pos rfl]
    by_cases hI : 0 ≤ I ∧ I < l.length
    · rw [if_pos hI]
      exact (does_set_in _ n L p A m c As ns cs l I X N w hV' hS' (fun b h => h.2) hl hI).mono fun e w' h => doesP_mono hm h
    · rw [if_neg hI]
      exact (does_set_no _ n L p A m c As ns cs l I X N w hV' hS' (fun b h => h.2) hl hI).mono fun e w' h => doesP_mono hm h
  rw [if_neg h1]
  by_cases h2 : D = 2
  · subst h2
    rw [if_pos rfl]
    by_cases hneg : N < 0
    · rw [show l.length - N.toNat = l.length by omega, List.take_length]
      exact (does_pop_neg _ n L p A m c As ns cs l I X N w hV' hS' (fun b h => h.2) hneg).mono fun e w' h => doesP_mono hm h
    · obtain ⟨T, rfl⟩ : ∃ T : Nat, N = (T : Int) := ⟨N.toNat, by omega⟩
      exact (does_pop _ n L p A m c As ns cs l I X T w hV' hS' (fun b h => h.2) (by omega) hl).mono fun e w' h => doesP_mono hm h
  rw [if_neg h2]
  by_cases h3 : D = 3
  · subst h3
    rw [if_pos rfl]
    exact (does_keep _ n L p A m c As ns cs l I X N w hV' hS' (fun b h => h.2) hl).mono fun e w' h => doesP_mono hm h
  rw [if_neg h3]
  exact (does_else _ n L p A m c As ns cs l D I X N w hV' hS' (fun b h => h.2) h0 h1 h2 h3).mono fun e w' h => doesP_mono hm h

/-- what is at a place, told by the vector and by the document -/
theorem get_pair (K K' : Nat → Prop) (v s : Value) (l : List Int) (i : Int) (w : World) (hV : VRep K w v l) (hS : SlV K' w s (ints l)) :
    ∃ (x : Int) (b : Bool), (∀ W, Below w.heap.size w W → Calls Try.prog 20 #[v, .int .i64 i] W (Ret (fun u _ => u = .tuple #[.int .i64 x, .bool b]) W)) ∧ (∀ W, Below w.heap.size w W → Calls Try.prog 21 #[s, .int .i64 i] W (Ret (fun u _ => u = .tuple #[.int .i64 x, .bool b]) W)) := by
  by_cases hi : 0 ≤ i ∧ i < l.length
  · have hx : l[i.toNat]? = some (l[i.toNat]'(by omega)) := List.getElem?_eq_getElem _
    exact ⟨_, true, fun W hW => get_in K v l i _ W (hV.below hW) hi.1 hx, fun W hW => rget_in K' s l i _ hi.1 hx W (hS.below hW)⟩
  · exact ⟨0, false, fun W hW => get_no K v l i W (hV.below hW) hi, fun W hW => rget_no K' s l i hi W (hS.below hW)⟩

def SameI (w : World) (v : Value) (g : Nat) (is : List Int) (k : Nat) (v38 : Value) (wr : World) : Prop :=
  ∃ j : Nat, v38 = .int .i64 (j : Int) ∧ j + k = 6 ∧ wr.heap[w.heap.size]? = some (.cells v.cells VT (0, 0)) ∧ wr.heap[g]? = some (.cells (ints is).toArray 3 (0, 0)) ∧ Below w.heap.size w wr

set_option maxRecDepth 500000 in
set_option maxHeartbeats 4000000 in
theorem same_c (K K' : Nat → Prop) (v s : Value) (l : List Int) (w : World) (hV : VRep K w v l) (hS : SlV K' w s (ints l)) (hl : l.length ≤ 1000000) :
    Calls Try.prog 22 #[v, s] w (Ret (fun u _ => u = .bool true) w) := by
  obtain ⟨n, L, p, A, m, c, rfl⟩ := vrep_form hV
  obtain ⟨As, ns, cs, rfl⟩ := hS.form
  obtain rfl : ns = l.length := by have := hS.len; simpa using this
  have HV := Lib.hid hV; clear hV
  have HS := Lib.hid hS; clear hS
  have HLen := Lib.hid fun W (hw : Below w.heap.size w W) => len_r K _ l W (HV.out.below hw)
  have HLev := Lib.hid fun W (hw : Below w.heap.size w W) => lev_r K _ l W (HV.out.below hw)
  have HList := Lib.hid fun W (hw : Below w.heap.size w W) => list_c K _ l W (HV.out.below hw)
  have HRLev := Lib.hid fun (L : Int) (h : Lev (inTrie l.length) L) W => rlev_c l.length L h hl W
  have HSame := Lib.hid fun (J : Nat → Prop) (t : Value) W (h : SlV J W t (ints l)) (hw : Below w.heap.size w W) => rsame_c J K' t (.slice As l.length cs) l hl W h (HS.out.below hw)
  have HL := Lib.hid hl
  go_enter Try.func22, Try.ntmps22
  go_wp2_with (first
    | (go_at_call 16; ((with_reducible refine (HLen.out _ (by go_grown)).mono ?_); rintro e w1 ⟨v, rfl, rfl, hb1⟩; have hB1 : Below w.heap.size w w1 := below_trans (by go_grown) hb1; have B0 := blk_below (blk_new w _) hb1; obtain ⟨⟨k0, k1, k2, k3⟩, f0, f1, f2, f3⟩ := box4 B0; have HB0 := Lib.hid B0; clear B0 hb1))
    | (go_at_call 17; ((with_reducible refine (HLev.out _ hB1).mono ?_); rintro e w2 ⟨v, rfl, ⟨L2, rfl, hL2⟩, hb2⟩; have hB2 : Below w.heap.size w w2 := below_trans hB1 hb2; have B0 := blk_below HB0.out hb2; clear HB0; obtain ⟨⟨k0, k1, k2, k3⟩, f0, f1, f2, f3⟩ := box4 B0; have HB0 := Lib.hid B0; clear B0 hb2 hB1; have HL2 := Lib.hid hL2; clear hL2))
    | (go_at_call 35; ((with_reducible refine (HRLev.out L2 HL2.out _).mono ?_); rintro e w3 ⟨v, rfl, rfl, hb3⟩; have hB3 : Below w.heap.size w w3 := below_trans hB2 hb3; have B0 := blk_below HB0.out hb3; clear HB0; obtain ⟨⟨k0, k1, k2, k3⟩, f0, f1, f2, f3⟩ := box4 B0; have HB0 := Lib.hid B0; clear B0 hb3 hB2 HL2))
    | (go_at_call 12; ((with_reducible refine (HList.out _ hB3).mono ?_); rintro e w4 ⟨v, rfl, hS4, hb4⟩; obtain ⟨A4, n4, c4, rfl⟩ := hS4.form; have hB4 : Below w.heap.size w w4 := below_trans hB3 hb4; have B0 := blk_below HB0.out hb4; clear HB0; obtain ⟨⟨k0, k1, k2, k3⟩, f0, f1, f2, f3⟩ := box4 B0; have HB0 := Lib.hid B0; clear B0 hb4 hB3; have HS4 := Lib.hid hS4; clear hS4))
    | (go_at_call 13; ((with_reducible refine (HSame.out _ _ _ HS4.out hB4).mono ?_); rintro e w5 ⟨v, rfl, rfl, hb5⟩; have hB5 : Below w.heap.size w w5 := below_trans hB4 hb5; have B0 := blk_below HB0.out hb5; clear HB0; obtain ⟨⟨k0, k1, k2, k3⟩, f0, f1, f2, f3⟩ := box4 B0; have HB0 := Lib.hid B0; clear B0 hb5 hB4 HS4)))
  have hz5 : w.heap.size < w5.heap.size := blk_lt HB0.out
  go_loopg [38] 6 (fun k v38 wr => Aside (SameI w (vec n L p (.slice A m c)) w5.heap.size [-1, 0, 31, 32, (l.length : Int) - 1, (l.length : Int)] k v38 wr))
  case atStart =>
    show SameI _ _ _ _ _ _ _
    exact ⟨0, rfl, rfl, blk_alloc HB0.out _, blk_new w5 _, hB5.alloc hB5.size _⟩
  case round =>
    obtain ⟨j, rfl, hj, BV, BG, hB⟩ := hrel.out
    clear hrel
    obtain ⟨⟨k0, k1, k2, k3⟩, f0, f1, f2, f3⟩ := box4 BV
    have HBV := Lib.hid BV; clear BV
    cases gk with
    | zero =>
      obtain rfl : j = 6 := by omega
      clear hj
      go_wp2_with fail
      go_returns
      exact ⟨_, rfl, rfl, hB⟩
    | succ k =>
      obtain ⟨i, hi⟩ : ∃ i : Int, [-1, 0, 31, 32, (l.length : Int) - 1, (l.length : Int)][j]? = some i := ⟨_, List.getElem?_eq_getElem (by simp; omega)⟩
      have hc : wr.cell? ⟨w5.heap.size, j, none⟩ = some (.int .i64 i) := by
        rw [blk_cell BG]
        simp only [List.getElem?_toArray, List.getElem?_map, hi]
        rfl
      have hj6 : (j : Int) < 6 := by omega
      obtain ⟨x, b, hg, hr⟩ := get_pair K K' _ _ l i w HV.out HS.out
      have HG := Lib.hid hg; clear hg
      have HR := Lib.hid hr; clear hr
      have HBG := Lib.hid BG; clear BG
      have HI := Lib.hid hi; clear hi
      go_wp2_with (first
        | (go_at_call 20; ((with_reducible refine (HG.out _ hB).mono ?_); rintro e w6 ⟨v, rfl, rfl, hb6⟩; have hB6 : Below w.heap.size w w6 := below_trans hB hb6))
        | (go_at_call 21; ((with_reducible refine (HR.out _ hB6).mono ?_); rintro e w7 ⟨v, rfl, rfl, hb7⟩; have hB7 : Below w.heap.size w w7 := below_trans hB6 hb7)))
      go_roundg k
      case measure => omega
      case rel =>
        show SameI _ _ _ _ _ _ _
        exact ⟨j + 1, by first | rfl | (push_cast; rfl), by omega, blk_below (blk_below HBV.out hb6) hb7, blk_below (blk_below HBG.out hb6) hb7, hB7⟩
end Go.Proofs.Ytmoakgacffjblaa.Pv
end
