/- Going through a tree's things. -/
import Derived.RangeFuncNested
import Derived.RangeFuncBound
import Derived.RangeFuncCalls
import Derived.RangeFuncLeaves
import Derived.Shelf.Abstract
import Derived.Shelf.RegionOpen
import Derived.WalkKit
import Derived.OwnWalkIn
import Derived.TacticsInMore
import Derived.LoopNIn
import Derived.LoopIn
import Derived.Test.YtcjpdjecgeenfaaRoT
set_option linter.unusedVariables false
set_option linter.unusedSimpArgs false
namespace Go.Proofs.Ytcjpdjecgeenfaa.Ro
open Go Go.RowKit Go.Shelf Go.Proofs.Ytcjpdjecgeenfaa.Mem Go.Proofs.YtcjpdjecgeenfaaW.PrintWords

attribute [local go_sem] Oper.semAt_some

theorem room_of_none {F : Fence} (hd : F.depth = none) (k : Nat) : F.room k := fun d h => by rw [hd] at h; cases h
theorem RoundIn.anyDepth {F : Fence} (hd : F.depth = none) {m m' : Nat} {P : Program} {l : Nat} {f : FuncId} {tmps : Array Value} {assign body : Code} {w : World} {R : Ending → World → Prop}
    (h : RoundIn F m P l f tmps assign body w R) : RoundIn F m' P l f tmps assign body w R := ⟨h.1, fun c cs _ => h.2 c cs (room_of_none hd _)⟩
theorem YieldAt.anyDepth {F : Fence} (hd : F.depth = none) {m : Nat} (m' : Nat) {P : Program} {l : Nat} {args : Array Value} {W : World} {R : Ending → World → Prop} (h : YieldAt F m P l args W R) : YieldAt F m' P l args W R := by
  obtain ⟨fn, tmps, assign, body, hy, hR⟩ := h
  exact ⟨fn, tmps, assign, body, hy, RoundIn.anyDepth hd hR⟩

/-- things with their places, from a place on -/
def idx : Nat → List Int → List (Int × Int)
  | _, [] => []
  | a, x :: xs => ((a : Int), x) :: idx (a + 1) xs
theorem idx_append (a : Nat) (xs ys : List Int) : idx a (xs ++ ys) = idx a xs ++ idx (a + xs.length) ys := by
  induction xs generalizing a with
  | nil => rfl
  | cons x xs ih => show _ :: idx (a + 1) (xs ++ ys) = _ :: (idx (a + 1) xs ++ _); rw [ih]; congr 3; simp; omega
theorem idx_length (a : Nat) (xs : List Int) : (idx a xs).length = xs.length := by
  induction xs generalizing a with
  | nil => rfl
  | cons x xs ih => show (idx (a + 1) xs).length + 1 = _; rw [ih]; rfl
theorem idx_snoc (a : Nat) (xs : List Int) (x : Int) : idx a (xs ++ [x]) = idx a xs ++ [(((a + xs.length : Nat) : Int), x)] := idx_append a xs [x]

/-- the blocks of K lie as they lay -/
def Kept (K : Nat → Prop) (w w' : World) : Prop := ∀ b, K b → w'.heap[b]? = w.heap[b]?
theorem Kept.refl (K : Nat → Prop) (w : World) : Kept K w w := fun _ _ => rfl
theorem Kept.trans {K : Nat → Prop} {a b c : World} (h : Kept K a b) (k : Kept K b c) : Kept K a c := fun x hx => (k x hx).trans (h x hx)

/-- what a round owes -/
def Rounds (K : Nat → Prop) (l N : Nat) (J Jx : List (Int × Int) → World → Prop) : Prop := ∀ m pre (x : Int × Int) W, J pre W → pre.length < N → YieldAt Fence.wide m Try.prog l #[.int .i64 x.1, .int .i64 x.2] W fun e W' =>
  (e = .returned (.bool true) ∧ J (pre ++ [x]) W' ∧ Kept K W W') ∨ (e = .returned (.bool false) ∧ Jx (pre ++ [x]) W')

/-- what going through things comes to -/
def Gone (K : Nat → Prop) (J Jx : List (Int × Int) → World → Prop) (pre zs : List (Int × Int)) (W : World) (e : Ending) (W' : World) : Prop :=
  (e = .returned (.bool true) ∧ J (pre ++ zs) W' ∧ Kept K W W') ∨ (e = .returned (.bool false) ∧ ∃ q, q <+: zs ∧ Jx (pre ++ q) W')

theorem RRep.old {K : Nat → Prop} {w w' : World} (hb : Kept K w w') {d c : Nat} {p : Option Addr} {xs : List Int} (h : RRep K w d p c xs) : RRep K w' d p c xs := RRep.keep (fun _ h _ => h) (fun b hk _ => hb b hk) h
theorem SlV.old {K : Nat → Prop} {w w' : World} {v : Value} {xs : List Value} (hb : Kept K w w') (h : SlV K w v xs) : SlV K w' v xs := h.keep fun b hk _ => hb b hk

set_option maxRecDepth 100000 in
set_option maxHeartbeats 4000000 in
theorem each_leaf (K : Nat → Prop) (l N : Nat) (J Jx : List (Int × Int) → World → Prop) (hY : Rounds K l N J Jx) (n : Nat) (p : Option Addr) (c : Nat) (xs : List Int) (from' : Nat) (pre : List (Int × Int)) (W : World)
    (hN : RRep K W 0 p c xs) (hJ : J pre W) (hlen : pre.length + xs.length ≤ N) (hf : from' ≤ 1000000) (hl : xs.length ≤ 1000000) :
    CallsIn Fence.wide n Try.prog 30 #[.pointer p, .int .i64 (from' : Int), .func (.yield l) #[] #[]] W (Gone K J Jx pre (idx from' xs) W) := by
  obtain ⟨g, s, rfl, hKg, hg, hs, rfl⟩ := hN
  obtain ⟨A, m, cap, rfl⟩ := hs.form
  have hm : m = xs.length := by have := hs.len; simpa using this
  have HK2 := Lib.hid (fun wr (hB : Kept K W wr) => (show wr.cell? ⟨g, 2, none⟩ = some (.slice none 0 0) from blk_cell ((hB g hKg).trans hg) 2))
  have hc3 : W.cell? ⟨g, 3, none⟩ = some (.slice A m cap) := blk_cell hg 3
  have HS := Lib.hid hs; clear hs
  have HY := Lib.hid hY; clear hY
  have HL := Lib.hid hm; clear hm hg
  have hmb : (m : Int) ≤ 1000000 := by have := HL.out; omega
  refine callsIn_of_wp Try.func30 rfl trivial ?_ rfl
  simp only [Try.ntmps30, List.size_toArray, List.length_cons, List.length_nil, Nat.reduceAdd, Nat.reduceSub, Array.replicate_succ, Array.replicate_zero, List.push_toArray, List.append_toArray, List.nil_append, List.cons_append]
  gi_wp2
  gi_loopw [16] (fun i wr => ∃ k : Nat, i = .int .i64 (k : Int) ∧ k ≤ m ∧ Hid (J (pre ++ idx from' (xs.take k)) wr) ∧ Kept K W wr) (fun i _ => m - (intOf i).toNat)
  case atStart => exact ⟨0, rfl, by omega, Lib.hid (by simpa [idx] using hJ), Kept.refl _ _⟩
  case round =>
    obtain ⟨k, rfl, hk, hJk, hB⟩ := hrel
    by_cases hk32 : k = m
    · subst hk32
      have k2 := HK2.out wr hB
      gi_wp2
      gi_loopw [34] (fun i wr => i = .int .i64 0 ∧ Hid (J (pre ++ idx from' (xs.take k)) wr) ∧ Kept K W wr) (fun i _ => 0)
      case atStart => exact ⟨rfl, hJk, hB⟩
      case round =>
        obtain ⟨rfl, hJk, hB⟩ := hrel
        gi_wp2
        go_ret
        refine .inl ⟨rfl, ?_, hB⟩
        have := hJk.out
        rwa [List.take_of_length_le (by rw [HL.out]; exact Nat.le_refl _)] at this
    · have hk31 : k < m := by omega
      have hkI : (k : Int) < (m : Int) := by omega
      obtain ⟨x, hx⟩ : ∃ x, xs[k]? = some x := ⟨_, List.getElem?_eq_getElem (by rw [← HL.out]; exact hk31)⟩
      obtain ⟨ad, rfl, hcell⟩ := (SlV.old hB HS.out).addr (by have := HL.out; simp; omega)
      have hcx : wr.cell? (ad.add k) = some (.int .i64 x) := hcell k _ (by simp [hx])
      have htk : idx from' (xs.take (k + 1)) = idx from' (xs.take k) ++ [((from' : Int) + (k : Int), x)] := by
        rw [List.take_add_one, hx, Option.toList_some, idx_snoc, List.length_take, ← HL.out, Nat.min_eq_left hk]; push_cast; rfl
      have hlk : (pre ++ idx from' (xs.take k)).length < N := by rw [List.length_append, idx_length, List.length_take, ← HL.out, Nat.min_eq_left hk]; have := HL.out; omega
      have hpx : pre ++ idx from' (xs.take k) ++ [((from' : Int) + (k : Int), x)] = pre ++ idx from' (xs.take (k + 1)) := by rw [htk, List.append_assoc]
      have hpf : idx from' (xs.take (k + 1)) <+: idx from' xs := ⟨idx (from' + (xs.take (k + 1)).length) (xs.drop (k + 1)), by rw [← idx_append, List.take_append_drop]⟩
      obtain ⟨fn, tmps, assign, body, hy, hR⟩ := HY.out (n - 1) _ ((from' : Int) + (k : Int), x) wr hJk.out hlk
      dsimp only at hy
      have HR := Lib.hid hR; clear hR
      have HPX := Lib.hid hpx; clear hpx htk hlk hcell
      have HPF := Lib.hid hpf; clear hpf hx
      gi_wp2
      refine ⟨fun h => (Bool.false_ne_true h).elim, HR.out.mono ?_⟩
      rintro e W3 (⟨rfl, hJ3, hk3⟩ | ⟨rfl, hJx3⟩)
      · have HJ3 := Lib.hid hJ3; clear hJ3
        gi_wp2
        go_roundw
        case rel =>
          have hnew : Hid (J (pre ++ idx from' (xs.take (k + 1))) W3) := Lib.hid (by rw [← HPX.out]; exact HJ3.out)
          exact ⟨k + 1, by first | rfl | (push_cast; rfl), by omega, hnew, hB.trans hk3⟩
        case measure => simp [intOf]; omega
      · have HJ3 := Lib.hid hJx3; clear hJx3
        gi_wp2
        go_ret
        exact .inr ⟨rfl, _, HPF.out, by rw [← HPX.out]; exact HJ3.out⟩

/-- what each comes to at a depth -/
def EachP (K : Nat → Prop) (l N : Nat) (J Jx : List (Int × Int) → World → Prop) (d : Nat) : Prop :=
  ∀ (n : Nat) (p : Option Addr) (c : Nat) (xs : List Int) (from' : Nat) (pre : List (Int × Int)) (W : World), RRep K W d p c xs → c ≤ 16 → J pre W → pre.length + xs.length ≤ N → from' + xs.length ≤ 1000000 →
    CallsIn Fence.wide n Try.prog 30 #[.pointer p, .int .i64 (from' : Int), .func (.yield l) #[] #[]] W (Gone K J Jx pre (idx from' xs) W)

set_option maxRecDepth 100000 in
set_option maxHeartbeats 4000000 in
theorem each_inner (K : Nat → Prop) (l N : Nat) (J Jx : List (Int × Int) → World → Prop) (d : Nat) (ih : EachP K l N J Jx d) : EachP K l N J Jx (d + 1) := by
  intro n p c xs from' pre W hN hc hJ hlen hf
  obtain ⟨g, s, ks, rfl, hKg, hg, hs, hks, rfl, rfl⟩ := hN
  obtain ⟨A, m, cap, rfl⟩ := hs.form
  have hm : m = ks.length := by have := hs.len; simpa using this
  have hc3 : W.cell? ⟨g, 3, none⟩ = some (.slice none 0 0) := blk_cell hg 3
  have HK2 := Lib.hid (fun wr (hB : Kept K W wr) => (show wr.cell? ⟨g, 2, none⟩ = some (.slice A m cap) from blk_cell ((hB g hKg).trans hg) 2))
  have HS := Lib.hid hs; clear hs
  have HKS := Lib.hid hks; clear hks hg
  have HI := Lib.hid ih; clear ih
  have HM := Lib.hid hm; clear hm
  have hm16 : (m : Int) ≤ 16 := by have := HM.out; omega
  have HF := Lib.hid (show pre.length + (things ks).length ≤ N ∧ from' + (things ks).length ≤ 1000000 from ⟨hlen, hf⟩)
  clear hlen hf
  refine callsIn_of_wp Try.func30 rfl trivial ?_ rfl
  simp only [Try.ntmps30, List.size_toArray, List.length_cons, List.length_nil, Nat.reduceAdd, Nat.reduceSub, Array.replicate_succ, Array.replicate_zero, List.push_toArray, List.append_toArray, List.nil_append, List.cons_append]
  gi_wp2
  gi_loopw [16] (fun i wr => i = .int .i64 0 ∧ Hid (J pre wr) ∧ Kept K W wr) (fun i _ => 0)
  case atStart => exact ⟨rfl, Lib.hid hJ, Kept.refl _ _⟩
  case round =>
    obtain ⟨rfl, hJk, hB⟩ := hrel
    have k2 := HK2.out wr hB
    gi_wp2
    gi_loopw [1, 34] (fun f i wr => ∃ k : Nat, i = .int .i64 (k : Int) ∧ f = .int .i64 ((from' + (things (ks.take k)).length : Nat) : Int) ∧ k ≤ m ∧ Hid (J (pre ++ idx from' (things (ks.take k))) wr) ∧ Kept K W wr) (fun f i _ => m - (intOf i).toNat)
    case atStart => exact ⟨0, rfl, by simp [things], by omega, Lib.hid (by simpa [idx, things] using hJk.out), hB⟩
    case round =>
      clear hJk k2 hB
      obtain ⟨k, rfl, rfl, hk, hJk, hB⟩ := hrel
      by_cases hk32 : k = m
      · subst hk32
        gi_wp2
        go_ret
        refine .inl ⟨rfl, ?_, hB⟩
        have := hJk.out
        rwa [List.take_of_length_le (by have := HM.out; omega)] at this
      · have hk31 : k < m := by omega
        have hkm : (k : Int) < (m : Int) := by omega
        obtain ⟨kid, hkid⟩ : ∃ x, ks[k]? = some x := ⟨_, List.getElem?_eq_getElem (by have := HM.out; omega)⟩
        obtain ⟨ad, rfl, hcell⟩ := (SlV.old hB HS.out).addr (by have := HM.out; simp; omega)
        have hcx : wr.cell? (ad.add k) = some (.pointer kid.1) := hcell k _ (by simp [hkid])
        clear hcell
        obtain ⟨hr, h8, h16⟩ := HKS.out kid (List.mem_of_getElem? hkid)
        have htk := things_take_at hkid
        obtain ⟨t0, ht0⟩ : ∃ t0 : Nat, t0 = (things (ks.take k)).length := ⟨_, rfl⟩
        have hall : things ks = things (ks.take (k + 1)) ++ things (ks.drop (k + 1)) := by show List.flatMap _ ks = _; rw [← List.flatMap_append, List.take_append_drop]
        have hlen2 := congrArg List.length hall
        rw [List.length_append, htk, List.length_append, ← ht0] at hlen2
        rw [← ht0]
        have hlq : (pre ++ idx from' (things (ks.take k))).length + kid.2.2.length ≤ N := by rw [List.length_append, idx_length, ← ht0]; have := HF.out; omega
        have hfq : from' + t0 + kid.2.2.length ≤ 1000000 := by have := HF.out; omega
        have hid : idx from' (things (ks.take (k + 1))) = idx from' (things (ks.take k)) ++ idx (from' + t0) kid.2.2 := by rw [htk, idx_append, ← ht0]
        have hids : idx from' (things ks) = idx from' (things (ks.take (k + 1))) ++ idx (from' + (things (ks.take (k + 1))).length) (things (ks.drop (k + 1))) := by rw [← idx_append, ← hall]
        have hcall := HI.out (n - 1) kid.1 kid.2.1 kid.2.2 (from' + t0) (pre ++ idx from' (things (ks.take k))) wr (RRep.old hB hr) h16 hJk.out hlq hfq
        obtain ⟨g1, a1, b1, e1, hg1, B1⟩ := hr.head
        have HC1 := Lib.hid (fun wr (hB : Kept K W wr) => (show wr.cell? ⟨g1, 0, none⟩ = some (.int .i64 (kid.2.2.length : Int)) from blk_cell ((hB g1 hg1).trans B1) 0))
        have hnx : (from' + (things (ks.take (k + 1))).length : Nat) = from' + t0 + kid.2.2.length := by rw [htk, List.length_append, ← ht0]; omega
        have HNX := Lib.hid hnx
        have HC := Lib.hid hcall; clear hcall hlq
        have HID := Lib.hid hid; have HIDS := Lib.hid hids
        have hb1 : ((from' + t0 : Nat) : Int) ≤ 1000000 := by omega
        have hb2 : ((from' + t0 : Nat) : Int) + (kid.2.2.length : Int) ≤ 1000000 := by omega
        clear hid hids hall htk hlen2 hnx hr B1 hg1 hkid hfq ht0
        rw [e1] at HC hcx
        gi_wp2_with fail
        refine ⟨trivial, fun h => (Bool.false_ne_true h).elim, HC.out.mono ?_⟩
        rintro e W3 (⟨rfl, hJ3, hk3⟩ | ⟨rfl, q, hq, hJx3⟩)
        · have HJ3 := Lib.hid hJ3; clear hJ3
          have c1 := HC1.out W3 (hB.trans hk3)
          gi_wp2
          go_roundw
          case rel =>
            have hnew : Hid (J (pre ++ idx from' (things (ks.take (k + 1)))) W3) := Lib.hid (by rw [HID.out, ← List.append_assoc]; exact HJ3.out)
            exact ⟨k + 1, by first | rfl | (push_cast; rfl), by rw [HNX.out]; first | rfl | (push_cast; rfl), by omega, hnew, hB.trans hk3⟩
          case measure => simp [intOf]; omega
        · have HJ3 := Lib.hid hJx3; clear hJx3
          have HQ := Lib.hid hq; clear hq
          gi_wp2
          go_ret
          obtain ⟨r, hr⟩ := HQ.out
          exact .inr ⟨rfl, idx from' (things (ks.take k)) ++ q, ⟨r ++ idx (from' + (things (ks.take (k + 1))).length) (things (ks.drop (k + 1))), by rw [HIDS.out, HID.out, ← hr]; simp⟩, by rw [← List.append_assoc]; exact HJ3.out⟩

theorem each_c (K : Nat → Prop) (l N : Nat) (J Jx : List (Int × Int) → World → Prop) (hY : Rounds K l N J Jx) (d : Nat) : EachP K l N J Jx d := by
  induction d with
  | zero =>
    intro n p c xs from' pre W hN hc hJ hlen hf
    exact each_leaf K l N J Jx hY n p c xs from' pre W hN hJ hlen (by omega) (by omega)
  | succ d ih => exact each_inner K l N J Jx d ih
end Go.Proofs.Ytcjpdjecgeenfaa.Ro
