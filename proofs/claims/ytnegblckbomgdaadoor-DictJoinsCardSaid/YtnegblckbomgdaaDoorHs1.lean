/- Laws of the maps' code and of the words it uses, gathered out of the printed and own texts; no conditions. -/
import Derived.Test.YtnegblckbomgdaaDoorHsWWords
import Derived.Test.YtnegblckbomgdaaDoorHsWMore
import Derived.Laws.Entries
import Derived.Lib.Strings
import Derived.Laws.CopyOwn
import Derived.Laws.MakeOwn
import Derived.Handy
import Derived.Lib.Hide
import Derived.Maps.AppendAt
import Derived.Laws.IdiomCopy
import Derived.Test.YtnegblckbomgdaaDoorProg
import Derived.Lib.BitFns
import Derived.Lib.TrailingZeros
import Derived.Laws.BitsLemmas
import Derived.Outline
import Derived.Deep.QuietTactic
import Derived.BigQuiet
import Derived.Deep.RegionHeld3
import Derived.Deep.DrawnRows
import Derived.Deep.RegionLaw
import Derived.Test.YtnegblckbomgdaaDoorHsPAx2
import Derived.Test.YtnegblckbomgdaaDoorHsPAx4
import Derived.Test.YtnegblckbomgdaaDoorHsPAx5
set_option linter.unusedVariables false
set_option linter.unusedSimpArgs false
section
namespace Go.Proofs.YtnegblckbomgdaaDoor.U64
open Go Go.Proofs.YtnegblckbomgdaaDoorW.PrintWords
def U (b : BitVec 64) : Int := (b.toNat : Int)
theorem U_nonneg (b : BitVec 64) : 0 ≤ U b := by unfold U; omega
theorem wrap_u64 (n : Int) : IntKind.u64.wrap n = n % 18446744073709551616 := by
  simp [IntKind.wrap, IntKind.bits, IntKind.signed]
theorem ofInt_toNat (n : Int) : ((BitVec.ofInt 64 n).toNat : Int) = n % 18446744073709551616 := by
  rw [BitVec.toNat_ofInt]; omega
theorem wrap_U (n : Int) : IntKind.u64.wrap n = U (BitVec.ofInt 64 n) := by
  rw [wrap_u64]; unfold U; rw [ofInt_toNat]
theorem ofInt_U (b : BitVec 64) : BitVec.ofInt 64 (U b) = b := by
  unfold U; simp
theorem xor_U (a b : BitVec 64) : Go.bits .xor .u64 (U a) (U b) = U (a ^^^ b) := by
  have e : Go.bits .xor .u64 (U a) (U b) = IntKind.u64.wrap ((BitVec.ofInt 64 (U a) ^^^ BitVec.ofInt 64 (U b)).toNat) := rfl
  rw [e, ofInt_U, ofInt_U, wrap_u64]; have := (a ^^^ b).isLt; unfold U; omega
theorem and_U (a b : BitVec 64) : Go.bits .and .u64 (U a) (U b) = U (a &&& b) := by
  have e : Go.bits .and .u64 (U a) (U b) = IntKind.u64.wrap ((BitVec.ofInt 64 (U a) &&& BitVec.ofInt 64 (U b)).toNat) := rfl
  rw [e, ofInt_U, ofInt_U, wrap_u64]; have := (a &&& b).isLt; unfold U; omega
theorem or_U (a b : BitVec 64) : Go.bits .or .u64 (U a) (U b) = U (a ||| b) := by
  have e : Go.bits .or .u64 (U a) (U b) = IntKind.u64.wrap ((BitVec.ofInt 64 (U a) ||| BitVec.ofInt 64 (U b)).toNat) := rfl
  rw [e, ofInt_U, ofInt_U, wrap_u64]; have := (a ||| b).isLt; unfold U; omega
theorem mul_U (a c : BitVec 64) : IntKind.u64.wrap (U a * U c) = U (a * c) := by
  rw [wrap_u64]; unfold U; rw [BitVec.toNat_mul]; omega
theorem add_U (a c : BitVec 64) : IntKind.u64.wrap (U a + U c) = U (a + c) := by
  rw [wrap_u64]; unfold U; rw [BitVec.toNat_add]; omega
theorem sub_U (a c : BitVec 64) : IntKind.u64.wrap (U a - U c) = U (a - c) := by
  rw [wrap_u64]; unfold U; rw [BitVec.toNat_sub]; have := c.isLt; omega
theorem div_U (a : BitVec 64) (n : Nat) : U a / ((2 ^ n : Nat) : Int) = U (a >>> n) := by
  unfold U; rw [BitVec.toNat_ushiftRight, Nat.shiftRight_eq_div_pow, Int.natCast_ediv]
theorem shl_mul_U (a : BitVec 64) (n : Nat) : IntKind.u64.wrap (U a * ((2 ^ n : Nat) : Int)) = U (a <<< n) := by
  rw [wrap_u64]; unfold U; rw [BitVec.toNat_shiftLeft, Nat.shiftLeft_eq]
  rw [← Int.natCast_mul]
  generalize a.toNat * 2 ^ n = m
  omega
theorem shl_U (a : BitVec 64) (n : Nat) (h : n ≤ 64) : shl .u64 (U a) (n : Int) = U (a <<< n) := by
  unfold shl
  have : min (n : Int).toNat IntKind.u64.bits = n := by show min n 64 = n; omega
  rw [this]
  have e : ((2 : Int) ^ n) = ((2 ^ n : Nat) : Int) := by push_cast; rfl
  rw [e, shl_mul_U]
theorem shr_U (a : BitVec 64) (n : Nat) (h : n ≤ 64) : shr .u64 (U a) (n : Int) = U (a >>> n) := by
  unfold shr
  have : min (n : Int).toNat IntKind.u64.bits = n := by show min n 64 = n; omega
  rw [this]
  have e : ((2 : Int) ^ n) = ((2 ^ n : Nat) : Int) := by push_cast; rfl
  rw [e, div_U]
end Go.Proofs.YtnegblckbomgdaaDoor.U64
end
section
namespace Go.Proofs.YtnegblckbomgdaaDoor.Bs
open Go Go.Proofs.YtnegblckbomgdaaDoorW.PrintWords
def bs (l : List UInt8) : ByteArray := ⟨l.toArray⟩
def N (l : List UInt8) : List Int := l.map fun c => (c.toNat : Int)
theorem bs_data (l : List UInt8) : (bs l).data.toList = l := by simp [bs]
theorem bs_size (l : List UInt8) : (bs l).size = l.length := by simp [bs, ByteArray.size]
theorem bs_of (s : ByteArray) : s = bs s.data.toList := by cases s; simp [bs]
theorem data_inj {a b : ByteArray} (h : a.data.toList = b.data.toList) : a = b := by rw [bs_of a, bs_of b, h]
theorem data_append (a b : ByteArray) : (a ++ b).data.toList = a.data.toList ++ b.data.toList := by
  rw [ByteArray.data_append]; simp
theorem bs_append (l m : List UInt8) : bs l ++ bs m = bs (l ++ m) := data_inj (by rw [data_append, bs_data, bs_data, bs_data])
theorem strOfNums_N (l : List UInt8) : strOfNums (N l) = bs l := by
  apply data_inj
  rw [strOfNums_data, bs_data, N, List.map_map]
  conv => rhs; rw [← List.map_id l]
  refine List.map_congr_left fun c _ => ?_
  show UInt8.ofNat ((c.toNat : Int)).toNat = c
  rw [Int.toNat_natCast]; exact UInt8.ofNat_toNat
theorem drop_cons {α : Type} {l : List α} {i : Nat} {c : α} {r : List α} (h : l.drop i = c :: r) : i < l.length ∧ l.drop (i + 1) = r ∧ l[i]? = some c := by
  have hi : i < l.length := by
    rcases Nat.lt_or_ge i l.length with h1 | h1
    · exact h1
    · rw [List.drop_eq_nil_of_le h1] at h; cases h
  rw [List.drop_eq_getElem_cons hi] at h
  injection h with h1 h2
  exact ⟨hi, h2, by rw [List.getElem?_eq_getElem hi, h1]⟩
theorem bt_at {l : List UInt8} {i : Nat} {c : UInt8} (h : l[i]? = some c) : bt (bs l) (i : Int) = (c.toNat : Int) := by
  obtain ⟨hi, rfl⟩ := List.getElem?_eq_some_iff.1 h
  unfold bt
  rw [show ((i : Int)).toNat = i by omega, dif_pos (by rw [bs_size]; exact hi)]
  rfl
theorem byte_eq (c d : UInt8) : ((c.toNat : Int) = (d.toNat : Int)) ↔ c = d := by
  constructor
  · intro h; exact UInt8.toNat_inj.1 (by omega)
  · rintro rfl; rfl
theorem w64_in {n : Int} (h0 : -9223372036854775808 ≤ n) (h1 : n < 9223372036854775808) : Go.RowKit.wrap64 n = n := by unfold Go.RowKit.wrap64; omega
theorem w64_succ {n : Nat} (h1 : n < 9223372036854775807) : Go.RowKit.wrap64 ((n : Int) + 1) = ((n + 1 : Nat) : Int) := by rw [w64_in (by omega) (by omega)]; rfl
theorem Ev.ge {α : Type} {g : Nat → Option α} {r : α} (n : Nat) (h : ∀ k, g (k + n) = some r) : Ev g r :=
  ⟨n, fun k hk => by obtain ⟨m, rfl⟩ : ∃ m, k = m + n := ⟨k - n, by omega⟩; exact h m⟩
theorem Ev.shift {α : Type} {g : Nat → Option α} {r : α} (n : Nat) (h : Ev (fun k => g (k + n)) r) : Ev g r := by
  obtain ⟨K, h⟩ := h
  exact ⟨K + n, fun k hk => by obtain ⟨m, rfl⟩ : ∃ m, k = m + n := ⟨k - n, by omega⟩; exact h m (by omega)⟩
theorem Ev.all {α : Type} {g : Nat → Option α} {r : α} (h : ∀ k, g k = some r) : Ev g r := ⟨0, fun k _ => h k⟩
end Go.Proofs.YtnegblckbomgdaaDoor.Bs
end
section
namespace Go.Proofs.YtnegblckbomgdaaDoor.Ht
open Go Go.RowKit
theorem less_self (l : List UInt8) : Op.bytesLess l l = false := by
  induction l with
  | nil => rfl
  | cons c l ih => simp [Op.bytesLess, ih]
theorem less_three (l : List UInt8) : ∀ m, Op.bytesLess l m = false → Op.bytesLess m l = false → l = m := by
  induction l with
  | nil => intro m h1 _; cases m with
    | nil => rfl
    | cons d m => simp [Op.bytesLess] at h1
  | cons c l ih =>
    intro m h1 h2
    cases m with
    | nil => simp [Op.bytesLess] at h2
    | cons d m =>
      simp only [Op.bytesLess, Bool.or_eq_false_iff, decide_eq_false_iff_not, Bool.and_eq_false_iff] at h1 h2
      have hcd : c = d := by
        have e1 := h1.1
        have e2 := h2.1
        rw [UInt8.lt_iff_toNat_lt] at e1 e2
        exact UInt8.toNat_inj.1 (by omega)
      subst hcd
      have i1 : Op.bytesLess l m = false := h1.2.resolve_left (by simp)
      have i2 : Op.bytesLess m l = false := h2.2.resolve_left (by simp)
      rw [ih m i1 i2]
theorem less_trans (a : List UInt8) : ∀ b c, Op.bytesLess a b = true → Op.bytesLess b c = true → Op.bytesLess a c = true := by
  induction a with
  | nil =>
    intro b c h1 h2
    cases c with
    | nil => cases b <;> simp [Op.bytesLess] at h2
    | cons d c => rfl
  | cons x a ih =>
    intro b c h1 h2
    cases b with
    | nil => simp [Op.bytesLess] at h1
    | cons y b =>
      cases c with
      | nil => simp [Op.bytesLess] at h2
      | cons z c =>
        simp only [Op.bytesLess, Bool.or_eq_true, decide_eq_true_eq, Bool.and_eq_true, beq_iff_eq] at h1 h2 ⊢
        rw [UInt8.lt_iff_toNat_lt] at h1 h2 ⊢
        rcases h1 with h1 | ⟨rfl, h1⟩ <;> rcases h2 with h2 | ⟨rfl, h2⟩
        · left; omega
        · left; exact h1
        · left; exact h2
        · right; exact ⟨rfl, ih b c h1 h2⟩
def klt (a b : ByteArray) : Bool := Op.bytesLess a.toList b.toList
theorem klt_self (a : ByteArray) : klt a a = false := less_self _
theorem klt_trans {a b c : ByteArray} (h : klt a b = true) (k : klt b c = true) : klt a c = true := less_trans _ _ _ h k
theorem klt_asymm {a b : ByteArray} (h : klt a b = true) : klt b a = false := by
  cases k : klt b a with
  | false => rfl
  | true => have := klt_trans h k; rw [klt_self] at this; cases this
theorem klt_tri {a b : ByteArray} (h : klt a b = false) (k : klt b a = false) : a = b := by
  have h1 := less_three _ _ h k
  rw [ByteArray.toList_eq, ByteArray.toList_eq] at h1
  exact Bs.data_inj h1
theorem klt_ne {a b : ByteArray} (h : klt a b = true) : a ≠ b := by rintro rfl; rw [klt_self] at h; cases h
section
variable {α : Type}
abbrev Ent (α : Type) := ByteArray × α
def Srt (L : List (Ent α)) : Prop := L.Pairwise fun a b => klt a.1 b.1 = true
def lo (L : List (Ent α)) (k : ByteArray) : List (Ent α) := L.filter fun e => klt e.1 k
def hi (L : List (Ent α)) (k : ByteArray) : List (Ent α) := L.filter fun e => klt k e.1
def ins (L : List (Ent α)) (k : ByteArray) (x : α) : List (Ent α) := lo L k ++ (k, x) :: hi L k
def del (L : List (Ent α)) (k : ByteArray) : List (Ent α) := L.filter fun e => decide (e.1 ≠ k)
def lkp (L : List (Ent α)) (k : ByteArray) : Option α := (L.find? fun e => decide (e.1 = k)).map (·.2)
theorem srt_nil : Srt ([] : List (Ent α)) := List.Pairwise.nil
theorem srt_cons {e : Ent α} {L : List (Ent α)} : Srt (e :: L) ↔ (∀ f ∈ L, klt e.1 f.1 = true) ∧ Srt L := List.pairwise_cons
theorem Srt.filter {L : List (Ent α)} (h : Srt L) (p : Ent α → Bool) : Srt (L.filter p) := List.Pairwise.filter p h
theorem Srt.del {L : List (Ent α)} (h : Srt L) (k : ByteArray) : Srt (del L k) := h.filter _
theorem filter_none {L : List (Ent α)} {p : Ent α → Bool} (h : ∀ e ∈ L, p e = false) : L.filter p = [] := List.filter_eq_nil_iff.2 fun e he => by rw [h e he]; simp
theorem filter_all {L : List (Ent α)} {p : Ent α → Bool} (h : ∀ e ∈ L, p e = true) : L.filter p = L := List.filter_eq_self.2 h
theorem find_none {L : List (Ent α)} {k : ByteArray} (h : ∀ e ∈ L, e.1 ≠ k) : lkp L k = none := by
  unfold lkp
  rw [List.find?_eq_none.2 fun e he => by simpa using h e he]
  rfl
theorem split_none {L : List (Ent α)} (h : Srt L) {k : ByteArray} (hk : lkp L k = none) : L = lo L k ++ hi L k := by
  induction L with
  | nil => rfl
  | cons e L ih =>
    obtain ⟨h1, h2⟩ := srt_cons.1 h
    have hne : e.1 ≠ k := by
      rintro rfl
      simp [lkp] at hk
    have hk' : lkp L k = none := by
      unfold lkp at hk ⊢
      rw [List.find?_cons_of_neg (by simpa using hne)] at hk
      exact hk
    unfold lo hi
    cases c : klt e.1 k with
    | true =>
      rw [List.filter_cons_of_pos (by simpa using c), List.filter_cons_of_neg (by rw [klt_asymm c]; simp), List.cons_append]
      exact congrArg _ (ih h2 hk')
    | false =>
      have c' : klt k e.1 = true := by
        cases c'' : klt k e.1 with
        | true => rfl
        | false => exact absurd (klt_tri c c'') hne
      have hall : ∀ f ∈ L, klt k f.1 = true := fun f hf => klt_trans c' (h1 f hf)
      rw [List.filter_cons_of_neg (by rw [c]; simp), List.filter_cons_of_pos (by simpa using c'), filter_none (fun f hf => klt_asymm (hall f hf)), filter_all hall]
      rfl
theorem split_some {L : List (Ent α)} (h : Srt L) {k : ByteArray} {x : α} (hk : lkp L k = some x) : L = lo L k ++ (k, x) :: hi L k := by
  induction L with
  | nil => simp [lkp] at hk
  | cons e L ih =>
    obtain ⟨h1, h2⟩ := srt_cons.1 h
    unfold lo hi
    by_cases hne : e.1 = k
    · obtain ⟨a, b⟩ := e
      obtain rfl : a = k := hne
      have hb : b = x := by simpa [lkp] using hk
      subst hb
      rw [List.filter_cons_of_neg (by rw [klt_self]; simp), List.filter_cons_of_neg (by rw [klt_self]; simp), filter_none (fun f hf => klt_asymm (h1 f hf)), filter_all h1]
      rfl
    · have hk' : lkp L k = some x := by
        unfold lkp at hk ⊢
        rw [List.find?_cons_of_neg (by simpa using hne)] at hk
        exact hk
      have hmem : ∃ f ∈ L, f.1 = k := by
        unfold lkp at hk'
        obtain ⟨f, hf, _⟩ := Option.map_eq_some_iff.1 hk'
        exact ⟨f, List.mem_of_find?_eq_some hf, by simpa using List.find?_some hf⟩
      obtain ⟨f, hf, rfl⟩ := hmem
      have c := h1 f hf
      rw [List.filter_cons_of_pos (by simpa using c), List.filter_cons_of_neg (by rw [klt_asymm c]; simp), List.cons_append]
      exact congrArg _ (ih h2 hk')
theorem mem_lo {L : List (Ent α)} {k : ByteArray} {e : Ent α} : e ∈ lo L k ↔ e ∈ L ∧ klt e.1 k = true := List.mem_filter
theorem mem_hi {L : List (Ent α)} {k : ByteArray} {e : Ent α} : e ∈ hi L k ↔ e ∈ L ∧ klt k e.1 = true := List.mem_filter
theorem Srt.ins {L : List (Ent α)} (h : Srt L) (k : ByteArray) (x : α) : Srt (ins L k x) := by
  refine List.pairwise_append.2 ⟨h.filter _, List.pairwise_cons.2 ⟨fun e he => (mem_hi.1 he).2, h.filter _⟩, fun a ha b hb => ?_⟩
  have h1 := (mem_lo.1 ha).2
  rcases List.mem_cons.1 hb with rfl | hb
  · exact h1
  · exact klt_trans h1 (mem_hi.1 hb).2
theorem mem_keys {L : List (Ent α)} {k : ByteArray} : (∃ e ∈ L, e.1 = k) ↔ lkp L k ≠ none := by
  unfold lkp
  rw [Ne, Option.map_eq_none_iff, List.find?_eq_none]
  simp
theorem lkp_some {L : List (Ent α)} {k : ByteArray} {x : α} (h : Srt L) : lkp L k = some x ↔ (k, x) ∈ L := by
  constructor
  · intro hk
    have := split_some h hk
    rw [this]; simp
  · intro hm
    cases hk : lkp L k with
    | none => exact absurd hk (mem_keys.1 ⟨_, hm, rfl⟩)
    | some y =>
      have := split_some h hk
      rw [this] at hm
      rcases List.mem_append.1 hm with hm | hm
      · have := (mem_lo.1 hm).2; rw [klt_self] at this; cases this
      · rcases List.mem_cons.1 hm with e | hm
        · injection e with _ e; rw [e]
        · have := (mem_hi.1 hm).2; rw [klt_self] at this; cases this
theorem lkp_cons (e : Ent α) (L : List (Ent α)) (k : ByteArray) : lkp (e :: L) k = if e.1 = k then some e.2 else lkp L k := by
  unfold lkp
  rw [List.find?_cons]
  by_cases h : e.1 = k <;> simp [h]
theorem lkp_append (L M : List (Ent α)) (k : ByteArray) : lkp (L ++ M) k = (lkp L k).or (lkp M k) := by
  unfold lkp
  rw [List.find?_append]
  cases L.find? _ <;> rfl
theorem lkp_lo {L : List (Ent α)} {k j : ByteArray} : lkp (lo L k) j = if klt j k = true then lkp L j else none := by
  induction L with
  | nil => simp [lo, lkp]
  | cons e L ih =>
    unfold lo at ih ⊢
    by_cases hj : e.1 = j
    · subst hj
      cases c : klt e.1 k with
      | true => rw [List.filter_cons_of_pos (by simpa using c), lkp_cons, lkp_cons]; simp
      | false => rw [List.filter_cons_of_neg (by simp [c]), ih, c]; simp
    · cases c : klt e.1 k with
      | true => rw [List.filter_cons_of_pos (by simpa using c), lkp_cons, lkp_cons, if_neg hj, if_neg hj, ih]
      | false => rw [List.filter_cons_of_neg (by simp [c]), ih, lkp_cons, if_neg hj]
theorem lkp_hi {L : List (Ent α)} {k j : ByteArray} : lkp (hi L k) j = if klt k j = true then lkp L j else none := by
  induction L with
  | nil => simp [hi, lkp]
  | cons e L ih =>
    unfold hi at ih ⊢
    by_cases hj : e.1 = j
    · subst hj
      cases c : klt k e.1 with
      | true => rw [List.filter_cons_of_pos (by simpa using c), lkp_cons, lkp_cons]; simp
      | false => rw [List.filter_cons_of_neg (by simp [c]), ih, c]; simp
    · cases c : klt k e.1 with
      | true => rw [List.filter_cons_of_pos (by simpa using c), lkp_cons, lkp_cons, if_neg hj, if_neg hj, ih]
      | false => rw [List.filter_cons_of_neg (by simp [c]), ih, lkp_cons, if_neg hj]
theorem lkp_ins (L : List (Ent α)) (k : ByteArray) (x : α) (j : ByteArray) : lkp (ins L k x) j = if j = k then some x else lkp L j := by
  unfold ins
  rw [lkp_append, lkp_cons, lkp_lo, lkp_hi]
  by_cases h : j = k
  · subst h; simp [klt_self]
  · simp only [h, Ne.symm h, if_false]
    cases c : klt j k with
    | true => rw [klt_asymm c]; simp
    | false =>
      cases c' : klt k j with
      | true => simp
      | false => exact absurd (klt_tri c c') h
theorem lkp_filter {L : List (Ent α)} (p : ByteArray → Bool) (j : ByteArray) : lkp (L.filter fun e => p e.1) j = if p j = true then lkp L j else none := by
  induction L with
  | nil => simp [lkp]
  | cons e L ih =>
    by_cases hj : e.1 = j
    · subst hj
      cases c : p e.1 with
      | true => rw [List.filter_cons_of_pos (by simpa using c), lkp_cons, lkp_cons]; simp
      | false => rw [List.filter_cons_of_neg (by simp [c]), ih, c]; simp
    · cases c : p e.1 with
      | true => rw [List.filter_cons_of_pos (by simpa using c), lkp_cons, lkp_cons, if_neg hj, if_neg hj, ih]
      | false => rw [List.filter_cons_of_neg (by simp [c]), ih, lkp_cons, if_neg hj]
theorem lkp_del (L : List (Ent α)) (k j : ByteArray) : lkp (del L k) j = if j = k then none else lkp L j := by
  have := lkp_filter (L := L) (fun a => decide (a ≠ k)) j
  unfold del
  rw [this]
  by_cases h : j = k <;> simp [h]
theorem srt_ext : ∀ {L M : List (Ent α)}, Srt L → Srt M → (∀ k, lkp L k = lkp M k) → L = M
  | [], [], _, _, _ => rfl
  | [], e :: M, _, _, h => by have := h e.1; rw [lkp_cons, if_pos rfl] at this; simp [lkp] at this
  | e :: L, [], _, _, h => by have := h e.1; rw [lkp_cons, if_pos rfl] at this; simp [lkp] at this
  | e :: L, f :: M, hL, hM, h => by
    obtain ⟨h1, h2⟩ := srt_cons.1 hL
    obtain ⟨h3, h4⟩ := srt_cons.1 hM
    have nL : ∀ j, klt e.1 j = false → lkp L j = none := fun j hj => find_none fun g hg => by rintro rfl; rw [h1 g hg] at hj; cases hj
    have nM : ∀ j, klt f.1 j = false → lkp M j = none := fun j hj => find_none fun g hg => by rintro rfl; rw [h3 g hg] at hj; cases hj
    have hef : e.1 = f.1 := by
      have a := h e.1
      have b := h f.1
      rw [lkp_cons, if_pos rfl, lkp_cons] at a
      rw [lkp_cons, lkp_cons, if_pos rfl] at b
      by_cases c : e.1 = f.1
      · exact c
      · rw [if_neg (fun x => c x.symm)] at a
        rw [if_neg c] at b
        have c1 : klt f.1 e.1 = true := by
          cases d : klt f.1 e.1 with
          | true => rfl
          | false => rw [nM _ d] at a; cases a
        rw [nL _ (klt_asymm c1)] at b
        cases b
    have he : e = f := by
      have a := h e.1
      rw [lkp_cons, if_pos rfl, lkp_cons, if_pos hef.symm] at a
      injection a with a
      exact Prod.ext hef a
    subst he
    rw [srt_ext h2 h4 fun k => ?_]
    have a := h k
    rw [lkp_cons, lkp_cons] at a
    by_cases c : e.1 = k
    · subst c; rw [nL _ (klt_self _), nM _ (klt_self _)]
    · rwa [if_neg c, if_neg c] at a
theorem ins_filter {L : List (Ent α)} (h : Srt L) (k : ByteArray) (x : α) (p : ByteArray → Bool) :
    (ins L k x).filter (fun e => p e.1) = if p k = true then ins (L.filter fun e => p e.1) k x else L.filter fun e => p e.1 := by
  refine srt_ext ((h.ins k x).filter _) (by split; exact (h.filter _).ins k x; exact h.filter _) fun j => ?_
  rw [lkp_filter, lkp_ins]
  cases c : p k with
  | true =>
    rw [if_pos rfl, lkp_ins, lkp_filter]
    by_cases hj : j = k
    · subst hj; simp [c]
    · simp [hj]
  | false =>
    simp only [Bool.false_eq_true, if_false]
    rw [lkp_filter]
    by_cases hj : j = k
    · subst hj; simp [c]
    · simp [hj]
theorem del_filter {L : List (Ent α)} (h : Srt L) (k : ByteArray) (p : ByteArray → Bool) :
    (del L k).filter (fun e => p e.1) = if p k = true then del (L.filter fun e => p e.1) k else L.filter fun e => p e.1 := by
  refine srt_ext ((h.del k).filter _) (by split; exact (h.filter _).del k; exact h.filter _) fun j => ?_
  rw [lkp_filter, lkp_del]
  cases c : p k with
  | true =>
    rw [if_pos rfl, lkp_del, lkp_filter]
    by_cases hj : j = k
    · subst hj; simp
    · simp [hj]
  | false =>
    simp only [Bool.false_eq_true, if_false]
    rw [lkp_filter]
    by_cases hj : j = k
    · subst hj; simp [c]
    · simp [hj]
theorem ins_length_none {L : List (Ent α)} (h : Srt L) {k : ByteArray} (x : α) (hk : lkp L k = none) : (ins L k x).length = L.length + 1 := by
  have := congrArg List.length (split_none h hk)
  rw [List.length_append] at this
  unfold ins
  rw [List.length_append, List.length_cons]; omega
theorem ins_length_some {L : List (Ent α)} (h : Srt L) {k : ByteArray} (x : α) {y : α} (hk : lkp L k = some y) : (ins L k x).length = L.length := by
  have := congrArg List.length (split_some h hk)
  rw [List.length_append, List.length_cons] at this
  unfold ins
  rw [List.length_append, List.length_cons]; omega
theorem del_none {L : List (Ent α)} {k : ByteArray} (hk : lkp L k = none) : del L k = L := by
  refine filter_all fun e he => ?_
  simp only [decide_eq_true_eq]
  intro h
  exact mem_keys.1 ⟨e, he, h⟩ hk
theorem del_some {L : List (Ent α)} (h : Srt L) {k : ByteArray} {x : α} (hk : lkp L k = some x) : del L k = lo L k ++ hi L k := by
  refine srt_ext (h.del k) ?_ fun j => ?_
  · refine List.pairwise_append.2 ⟨h.filter _, h.filter _, fun a ha b hb => klt_trans (mem_lo.1 ha).2 (mem_hi.1 hb).2⟩
  · rw [lkp_del, lkp_append, lkp_lo, lkp_hi]
    by_cases c : j = k
    · subst c; simp [klt_self]
    · rw [if_neg c]
      cases d : klt j k with
      | true => rw [klt_asymm d]; simp
      | false =>
        cases d' : klt k j with
        | true => simp
        | false => exact absurd (klt_tri d d') c
theorem del_length_some {L : List (Ent α)} (h : Srt L) {k : ByteArray} {x : α} (hk : lkp L k = some x) : (del L k).length + 1 = L.length := by
  have := congrArg List.length (split_some h hk)
  rw [List.length_append, List.length_cons] at this
  rw [del_some h hk, List.length_append]; omega
def rnk (L : List (Ent α)) (k : ByteArray) : Nat := (lo L k).length
theorem rnk_le (L : List (Ent α)) (k : ByteArray) : rnk L k ≤ L.length := List.length_filter_le _ _
theorem take_rnk {L : List (Ent α)} (h : Srt L) (k : ByteArray) : L.take (rnk L k) = lo L k := by
  obtain ⟨n, hn⟩ : ∃ n, n = rnk L k := ⟨_, rfl⟩
  rw [← hn]
  cases hk : lkp L k with
  | none => conv => lhs; rw [split_none h hk]
            exact List.take_left' hn.symm
  | some x => conv => lhs; rw [split_some h hk]
              exact List.take_left' hn.symm
theorem drop_rnk_none {L : List (Ent α)} (h : Srt L) {k : ByteArray} (hk : lkp L k = none) : L.drop (rnk L k) = hi L k := by
  obtain ⟨n, hn⟩ : ∃ n, n = rnk L k := ⟨_, rfl⟩
  rw [← hn]
  conv => lhs; rw [split_none h hk]
  exact List.drop_left' hn.symm
theorem drop_rnk_some {L : List (Ent α)} (h : Srt L) {k : ByteArray} {x : α} (hk : lkp L k = some x) : L.drop (rnk L k) = (k, x) :: hi L k := by
  obtain ⟨n, hn⟩ : ∃ n, n = rnk L k := ⟨_, rfl⟩
  rw [← hn]
  conv => lhs; rw [split_some h hk]
  exact List.drop_left' hn.symm
theorem get_rnk {L : List (Ent α)} (h : Srt L) {k : ByteArray} {x : α} (hk : lkp L k = some x) : L[rnk L k]? = some (k, x) := by
  have := drop_rnk_some h hk
  have h2 : (L.drop (rnk L k))[0]? = some (k, x) := by rw [this]; rfl
  rwa [List.getElem?_drop] at h2
theorem ins_take {L : List (Ent α)} (h : Srt L) {k : ByteArray} (x : α) (hk : lkp L k = none) : ins L k x = L.take (rnk L k) ++ (k, x) :: L.drop (rnk L k) := by
  rw [take_rnk h, drop_rnk_none h hk]; rfl
theorem ins_set {L : List (Ent α)} (h : Srt L) {k : ByteArray} (x : α) {y : α} (hk : lkp L k = some y) : ins L k x = L.set (rnk L k) (k, x) := by
  obtain ⟨n, hn⟩ : ∃ n, n = rnk L k := ⟨_, rfl⟩
  rw [← hn]
  conv => rhs; rw [split_some h hk]
  have hn' : n = (lo L k).length := hn
  unfold ins
  rw [List.set_append_right _ _ (by omega), hn', Nat.sub_self]; rfl
theorem del_take {L : List (Ent α)} (h : Srt L) {k : ByteArray} {x : α} (hk : lkp L k = some x) : del L k = L.take (rnk L k) ++ L.drop (rnk L k + 1) := by
  rw [del_some h hk, take_rnk h, ← List.drop_drop, drop_rnk_some h hk]; rfl
theorem rnk_lt {L : List (Ent α)} (h : Srt L) {k : ByteArray} {i : Nat} {e : Ent α} (he : L[i]? = some e) : klt e.1 k = true ↔ i < rnk L k := by
  constructor
  · intro hlt
    rcases Nat.lt_or_ge i (rnk L k) with h1 | h1
    · exact h1
    · have hm : e ∈ L.drop (rnk L k) := by
        refine List.mem_of_getElem? (i := i - rnk L k) ?_
        rw [List.getElem?_drop, show rnk L k + (i - rnk L k) = i by omega]; exact he
      cases hk : lkp L k with
      | none => rw [drop_rnk_none h hk] at hm; rw [klt_asymm (mem_hi.1 hm).2] at hlt; cases hlt
      | some x =>
        rw [drop_rnk_some h hk] at hm
        rcases List.mem_cons.1 hm with rfl | hm
        · rw [klt_self] at hlt; cases hlt
        · rw [klt_asymm (mem_hi.1 hm).2] at hlt; cases hlt
  · intro hi
    have : e ∈ L.take (rnk L k) := by
      refine List.mem_of_getElem? (i := i) ?_
      rw [List.getElem?_take_of_lt hi]; exact he
    rw [take_rnk h] at this
    exact (mem_lo.1 this).2
theorem rnk_hit {L : List (Ent α)} (h : Srt L) {k : ByteArray} : (∃ e, L[rnk L k]? = some e ∧ e.1 = k) ↔ lkp L k ≠ none := by
  constructor
  · rintro ⟨e, he, rfl⟩
    exact mem_keys.1 ⟨e, List.mem_of_getElem? he, rfl⟩
  · intro hk
    obtain ⟨x, hx⟩ := Option.ne_none_iff_exists'.1 hk
    exact ⟨_, get_rnk h hx, rfl⟩
theorem srt_perm {L M : List (Ent α)} (hL : Srt L) (hM : Srt M) (h : L.Perm M) : L = M := by
  refine srt_ext hL hM fun k => ?_
  cases c : lkp L k with
  | some x => exact ((lkp_some hM).2 (h.mem_iff.1 ((lkp_some hL).1 c))).symm
  | none =>
    cases d : lkp M k with
    | none => rfl
    | some x => rw [(lkp_some hL).2 (h.mem_iff.2 ((lkp_some hM).1 d))] at c; cases c
end
end Go.Proofs.YtnegblckbomgdaaDoor.Ht
end
section
namespace Go.Proofs.YtnegblckbomgdaaDoor.Ht
open Go Go.RowKit
def bitsN (f : Nat → Bool) : Nat → Nat
  | 0 => 0
  | n + 1 => bitsN f n + if f n = true then 2 ^ n else 0
theorem bitsN_lt (f : Nat → Bool) : ∀ n, bitsN f n < 2 ^ n
  | 0 => by simp [bitsN]
  | n + 1 => by
    have := bitsN_lt f n
    rw [bitsN, Nat.pow_succ]
    split <;> omega
theorem bitsN_testBit (f : Nat → Bool) : ∀ n i, (bitsN f n).testBit i = (decide (i < n) && f i)
  | 0, i => by simp [bitsN]
  | n + 1, i => by
    have hlt := bitsN_lt f n
    have ih := bitsN_testBit f n i
    rw [bitsN]
    cases hf : f n with
    | false =>
      simp only [Bool.false_eq_true, if_false, Nat.add_zero]
      rw [ih]
      by_cases h : i = n
      · subst h; simp [hf]
      · by_cases h2 : i < n
        · simp [h2, show i < n + 1 by omega]
        · simp [h2, show ¬ i < n + 1 by omega]
    | true =>
      simp only [if_true]
      rw [Nat.add_comm]
      by_cases h : i = n
      · subst h
        rw [Nat.testBit_two_pow_add_eq, ih]; simp [hf]
      · by_cases h2 : i < n
        · rw [Nat.testBit_two_pow_add_gt h2, ih]; simp [h2, show i < n + 1 by omega]
        · have : (2 ^ n + bitsN f n) < 2 ^ i := by
            have h3 : 2 ^ (n + 1) ≤ 2 ^ i := Nat.pow_le_pow_right (by decide) (by omega)
            rw [Nat.pow_succ] at h3; omega
          rw [Nat.testBit_lt_two_pow this]; simp [show ¬ i < n + 1 by omega]
theorem bitsN_mod (f : Nat → Bool) {m n : Nat} (h : m ≤ n) : bitsN f n % 2 ^ m = bitsN f m := by
  apply Nat.eq_of_testBit_eq
  intro i
  rw [Nat.testBit_mod_two_pow, bitsN_testBit, bitsN_testBit]
  by_cases h1 : i < m
  · simp [h1, show i < n by omega]
  · simp [h1]
theorem bitsN_bit (f : Nat → Bool) {n i : Nat} (h : i < n) : bitsN f n / 2 ^ i % 2 = if f i = true then 1 else 0 := by
  have h1 := bitsN_testBit f n i
  rw [Nat.testBit_eq_decide_div_mod_eq] at h1
  simp only [h, decide_true, Bool.true_and] at h1
  have h2 : bitsN f n / 2 ^ i % 2 < 2 := Nat.mod_lt _ (by decide)
  cases hf : f i with
  | true => rw [hf] at h1; simpa using h1
  | false => rw [hf] at h1; simp at h1; simp; omega
def on (f : Nat → Bool) (i : Nat) : Nat → Bool := fun j => decide (j = i) || f j
def off (f : Nat → Bool) (i : Nat) : Nat → Bool := fun j => !decide (j = i) && f j
theorem bitsN_or (f : Nat → Bool) {n i : Nat} (h : i < n) : bitsN f n ||| 2 ^ i = bitsN (on f i) n := by
  apply Nat.eq_of_testBit_eq
  intro j
  rw [Nat.testBit_or, bitsN_testBit, bitsN_testBit, Nat.testBit_two_pow]
  unfold on
  by_cases h1 : j = i
  · subst h1; simp [h]
  · have h2 : ¬ i = j := fun e => h1 e.symm
    simp [h1, h2]
theorem bitsN_zero {f : Nat → Bool} {n : Nat} : bitsN f n = 0 ↔ ∀ i, i < n → f i = false := by
  constructor
  · intro h i hi
    have := bitsN_testBit f n i
    rw [h] at this
    simpa [hi] using this.symm
  · intro h
    apply Nat.eq_of_testBit_eq
    intro i
    rw [bitsN_testBit]
    by_cases h1 : i < n
    · simp [h1, h i h1]
    · simp [h1]
def popc (n b : Nat) : Nat := ((List.range n).filter fun i => b.testBit i).length
def cnt (f : Nat → Bool) (n : Nat) : Nat := ((List.range n).filter f).length
theorem cnt_succ (f : Nat → Bool) (n : Nat) : cnt f (n + 1) = cnt f n + if f n = true then 1 else 0 := by
  unfold cnt
  rw [List.range_succ, List.filter_append, List.length_append]
  cases h : f n <;> simp [h]
theorem cnt_le (f : Nat → Bool) (n : Nat) : cnt f n ≤ n := by
  unfold cnt
  have := List.length_filter_le f (List.range n)
  rwa [List.length_range] at this
theorem cnt_mono (f : Nat → Bool) {m n : Nat} (h : m ≤ n) : cnt f m ≤ cnt f n := by
  induction n with
  | zero => obtain rfl : m = 0 := by omega
            exact Nat.le_refl _
  | succ n ih =>
    rw [cnt_succ]
    by_cases h1 : m = n + 1
    · subst h1; rw [cnt_succ]; exact Nat.le_refl _
    · have := ih (by omega); omega
theorem cnt_lt (f : Nat → Bool) {i n : Nat} (h : i < n) (hf : f i = true) : cnt f i < cnt f n := by
  have h1 := cnt_mono f (show i + 1 ≤ n from h)
  rw [cnt_succ, if_pos hf] at h1
  omega
theorem cnt_congr {f g : Nat → Bool} {n : Nat} (h : ∀ i, i < n → f i = g i) : cnt f n = cnt g n := by
  unfold cnt
  congr 1
  exact List.filter_congr fun i hi => h i (List.mem_range.1 hi)
theorem popc_cnt (f : Nat → Bool) {i n : Nat} (h : i ≤ n) : popc n (bitsN f i) = cnt f i := by
  have e : popc n (bitsN f i) = cnt (fun j => decide (j < i) && f j) n := by
    unfold popc cnt
    congr 1
    exact List.filter_congr fun j _ => bitsN_testBit f i j
  rw [e]
  clear e
  induction n with
  | zero => obtain rfl : i = 0 := by omega
            rfl
  | succ n ih =>
    by_cases h1 : i = n + 1
    · subst h1
      exact cnt_congr fun j hj => by simp [hj]
    · rw [cnt_succ, ih (by omega)]
      simp [show ¬ n < i by omega]
theorem popc_split (n m b : Nat) : popc (n + m) b = popc n b + popc m (b / 2 ^ n) := by
  unfold popc
  rw [List.range_add, List.filter_append, List.length_append, List.filter_map, List.length_map]
  congr 2
  apply List.filter_congr
  intro i _
  simp [Function.comp, Nat.testBit_div_two_pow, Nat.add_comm]
theorem popc_mod (n b : Nat) : popc n (b % 2 ^ n) = popc n b := by
  unfold popc
  congr 1
  apply List.filter_congr
  intro i hi
  rw [Nat.testBit_mod_two_pow]
  simp [List.mem_range.1 hi]
def rowC (c : Nat → Option (List Value)) (a n : Nat) : List Value := (List.range' a n).flatMap fun i => (c i).getD []
def has (c : Nat → Option (List Value)) : Nat → Bool := fun i => (c i).isSome
theorem rowC_add (c : Nat → Option (List Value)) (a m n : Nat) : rowC c a (m + n) = rowC c a m ++ rowC c (a + m) n := by
  unfold rowC
  rw [← List.range'_append_1, List.flatMap_append]
theorem rowC_one (c : Nat → Option (List Value)) (a : Nat) : rowC c a 1 = (c a).getD [] := by simp [rowC]
theorem rowC_split (c : Nat → Option (List Value)) {i n : Nat} (h : i < n) : rowC c 0 n = rowC c 0 i ++ ((c i).getD [] ++ rowC c (i + 1) (n - (i + 1))) := by
  rw [show n = i + (1 + (n - (i + 1))) by omega, rowC_add, rowC_add, rowC_one]
  simp only [Nat.zero_add]
  congr 3
  omega
theorem rowC_length (c : Nat → Option (List Value)) (k : Nat) (hc : ∀ i x, c i = some x → x.length = k) (n : Nat) : (rowC c 0 n).length = cnt (has c) n * k := by
  induction n with
  | zero => simp [rowC, cnt]
  | succ n ih =>
    rw [rowC_add, List.length_append, ih, rowC_one, cnt_succ, Nat.add_mul]
    congr 1
    unfold has
    cases h : c (0 + n) with
    | none => rw [Nat.zero_add] at h; simp [h]
    | some x => rw [Nat.zero_add] at h; have := hc n x h; simp [h, this]
theorem rowC_congr {c d : Nat → Option (List Value)} {a n : Nat} (h : ∀ i, a ≤ i → i < a + n → c i = d i) : rowC c a n = rowC d a n := by
  unfold rowC
  have : ∀ i ∈ List.range' a n, (c i).getD [] = (d i).getD [] := fun i hi => by
    rw [List.mem_range'_1] at hi
    rw [h i hi.1 hi.2]
  rw [List.flatMap_def, List.flatMap_def, List.map_congr_left this]
def put (c : Nat → Option (List Value)) (i : Nat) (x : Option (List Value)) : Nat → Option (List Value) := fun j => if j = i then x else c j
theorem put_same (c : Nat → Option (List Value)) (i : Nat) (x : Option (List Value)) : put c i x i = x := by simp [put]
theorem put_other (c : Nat → Option (List Value)) {i j : Nat} (x : Option (List Value)) (h : j ≠ i) : put c i x j = c j := by simp [put, h]
theorem has_put_some (c : Nat → Option (List Value)) (i : Nat) (x : List Value) : has (put c i (some x)) = on (has c) i := by
  funext j; unfold has put on; by_cases h : j = i <;> simp [h]
theorem has_put_none (c : Nat → Option (List Value)) (i : Nat) : has (put c i none) = off (has c) i := by
  funext j; unfold has put off; by_cases h : j = i <;> simp [h]
theorem cnt_on_low (f : Nat → Bool) (i : Nat) : cnt (on f i) i = cnt f i := cnt_congr fun j hj => by simp [on, show ¬ j = i by omega]
theorem cnt_off_low (f : Nat → Bool) (i : Nat) : cnt (off f i) i = cnt f i := cnt_congr fun j hj => by simp [off, show ¬ j = i by omega]
theorem cnt_on (f : Nat → Bool) {i n : Nat} (h : i < n) : cnt (on f i) n = if f i = true then cnt f n else cnt f n + 1 := by
  induction n with
  | zero => omega
  | succ n ih =>
    rw [cnt_succ, cnt_succ]
    by_cases h1 : i = n
    · subst h1
      rw [cnt_on_low]
      cases hf : f i <;> simp [on, hf]
    · rw [ih (by omega)]
      have h2 : ¬ n = i := fun e => h1 e.symm
      have : on f i n = f n := by simp [on, h2]
      rw [this]
      split <;> omega
theorem cnt_off (f : Nat → Bool) {i n : Nat} (h : i < n) (hf : f i = true) : cnt (off f i) n + 1 = cnt f n := by
  induction n with
  | zero => omega
  | succ n ih =>
    rw [cnt_succ, cnt_succ]
    by_cases h1 : i = n
    · subst h1
      rw [cnt_off_low]
      simp [off, hf]
    · have := ih (by omega)
      have h2 : ¬ n = i := fun e => h1 e.symm
      have e : off f i n = f n := by simp [off, h2]
      rw [e]
      omega
theorem rowC_put (c : Nat → Option (List Value)) (x : Option (List Value)) {i n : Nat} (h : i < n) : rowC (put c i x) 0 n = rowC c 0 i ++ (x.getD [] ++ rowC c (i + 1) (n - (i + 1))) := by
  rw [rowC_split _ h, put_same]
  congr 1
  · exact rowC_congr fun j _ hj => put_other c x (by omega)
  · congr 1
    exact rowC_congr fun j hj _ => put_other c x (by omega)
end Go.Proofs.YtnegblckbomgdaaDoor.Ht
end
section
namespace Go.Proofs.YtnegblckbomgdaaDoor.Mem
open Go Go.RowKit Go.Proofs.YtnegblckbomgdaaDoorW.PrintWords
def SlV (K : Nat → Prop) (w : World) (v : Value) (xs : List Value) : Prop :=
  ∃ A c, v = .slice A xs.length c ∧ xs.length ≤ c ∧ c ≤ maxLen ∧ (0 < xs.length → ∃ ad : Addr, A = some ad ∧ K ad.block ∧ ∀ (j : Nat) (u : Value), xs[j]? = some u → w.cell? (ad.add j) = some u) ∧ ∀ u ∈ xs, u.oneCell' = true
def Fresh (w : World) : Nat → Prop := fun b => w.heap.size ≤ b
def New (K : Nat → Prop) (w : World) : Nat → Prop := fun b => K b ∨ w.heap.size ≤ b
theorem New.old {K : Nat → Prop} {w : World} {b : Nat} (h : K b) : New K w b := Or.inl h
theorem New.fresh {K : Nat → Prop} {w : World} {b : Nat} (h : Fresh w b) : New K w b := Or.inr h
theorem Fresh.of {w w1 : World} (hb : w.heap.size ≤ w1.heap.size) {b : Nat} (h : Fresh w1 b) : Fresh w b := Nat.le_trans hb h
theorem New.of {K : Nat → Prop} {w w1 : World} (hb : w.heap.size ≤ w1.heap.size) {b : Nat} (h : New K w1 b) : New K w b := h.imp id (Nat.le_trans hb)
section
variable {K K' : Nat → Prop} {w w' : World} {v : Value} {xs : List Value}
theorem SlV.nil (K : Nat → Prop) (w : World) : SlV K w (.slice none 0 0) [] := ⟨none, 0, rfl, Nat.le_refl _, by simp [maxLen], fun h => absurd h (by simp), fun u h => by cases h⟩
theorem SlV.len {A : Option Addr} {n c : Nat} (h : SlV K w (.slice A n c) xs) : n = xs.length := by
  obtain ⟨A', c', he, _⟩ := h
  injection he
theorem SlV.form (h : SlV K w v xs) : ∃ A n c, v = .slice A n c := by
  obtain ⟨A, c, rfl, _⟩ := h
  exact ⟨A, _, c, rfl⟩
theorem SlV.one (h : SlV K w v xs) : ∀ u ∈ xs, u.oneCell' = true := by
  obtain ⟨_, _, _, _, _, _, h4⟩ := h; exact h4
theorem SlV.addr {A : Option Addr} {n c : Nat} (h : SlV K w (.slice A n c) xs) (hp : 0 < xs.length) : ∃ ad, A = some ad ∧ ∀ (j : Nat) (u : Value), xs[j]? = some u → w.cell? (ad.add j) = some u := by
  obtain ⟨A', c', he, _, _, h3, _⟩ := h
  injection he with hA _ _
  obtain ⟨ad, e, _, hc⟩ := h3 hp
  exact ⟨ad, by rw [hA, e], hc⟩
theorem block_lt {a : Addr} {u : Value} (h : w.cell? a = some u) : a.block < w.heap.size := World.block_lt_of_cell? w a h
theorem cell_below {a : Addr} {u : Value} (h : w.cell? a = some u) (hb : Below w.heap.size w w') : w'.cell? a = some u := (hb.cell (p := a) (block_lt h)).trans h
theorem SlV.mono (h : SlV K w v xs) (hK : ∀ b, K b → K' b) : SlV K' w v xs := by
  obtain ⟨A, c, rfl, h1, h2, h3, h4⟩ := h
  refine ⟨A, c, rfl, h1, h2, fun hp => ?_, h4⟩
  obtain ⟨ad, rfl, hk, hc⟩ := h3 hp
  exact ⟨ad, rfl, hK _ hk, hc⟩
theorem SlV.keep (h : SlV K w v xs) (hk : ∀ b, K b → b < w.heap.size → w'.heap[b]? = w.heap[b]?) : SlV K w' v xs := by
  obtain ⟨A, c, rfl, h1, h2, h3, h4⟩ := h
  refine ⟨A, c, rfl, h1, h2, fun hp => ?_, h4⟩
  obtain ⟨ad, rfl, hK, hc⟩ := h3 hp
  refine ⟨ad, rfl, hK, fun j u hu => ?_⟩
  have hb : (ad.add j).block = ad.block := by unfold Addr.add; split <;> rfl
  have hc' := hc j u hu
  have hlt := block_lt hc'
  rw [hb] at hlt
  rw [← hc']
  exact World.cell?_of_block (by rw [hb]; exact hk _ hK hlt)
theorem SlV.below (h : SlV K w v xs) (hb : Below w.heap.size w w') : SlV K w' v xs := h.keep fun b _ hlt => hb.block b hlt
theorem SlV.bound (h : SlV K w v xs) : SlV (fun b => K b ∧ b < w.heap.size) w v xs := by
  obtain ⟨A, c, rfl, h1, h2, h3, h4⟩ := h
  refine ⟨A, c, rfl, h1, h2, fun hp => ?_, h4⟩
  obtain ⟨ad, rfl, hK, hc⟩ := h3 hp
  have hlt := block_lt (hc 0 (xs[0]'hp) (List.getElem?_eq_getElem hp))
  have hb : (ad.add 0).block = ad.block := by unfold Addr.add; split <;> rfl
  rw [hb] at hlt
  exact ⟨ad, rfl, ⟨hK, hlt⟩, hc⟩
end
theorem add_head (g j : Nat) : (⟨g, 0, none⟩ : Addr).add j = ⟨g, j, none⟩ := by unfold Addr.add; split <;> simp_all
theorem add_off (g o j : Nat) : (⟨g, o, none⟩ : Addr).add j = ⟨g, o + j, none⟩ := by unfold Addr.add; split <;> simp_all
theorem SlV.blk {K : Nat → Prop} {w : World} {g c : Nat} {cs : Array Value} {t : TypeId} {xs : List Value} (h : w.heap[g]? = some (.cells cs t (0, 0))) (hx : ∀ (j : Nat) (u : Value), xs[j]? = some u → cs[j]? = some u) (hc : xs.length ≤ c) (hm : c ≤ maxLen) (h1 : ∀ u ∈ xs, u.oneCell' = true) (hK : K g) :
    SlV K w (.slice (some ⟨g, 0, none⟩) xs.length c) xs :=
  ⟨some ⟨g, 0, none⟩, c, rfl, hc, hm, fun _ => ⟨_, rfl, hK, fun j u hu => by
    rw [add_head, blk_cell h]; exact hx j u hu⟩, h1⟩
def Ret (P : Value → World → Prop) (w : World) (e : Ending) (w' : World) : Prop := ∃ v, e = .returned v ∧ P v w' ∧ Below w.heap.size w w'
theorem below_trans {w w1 w2 : World} (h : Below w.heap.size w w1) (k : Below w1.heap.size w1 w2) : Below w.heap.size w w2 := below_then h h.size k
theorem heap_k1 (w : World) (a o : Obj) : ((w.alloc a).alloc o).heap[w.heap.size + 1]? = some o := by
  have := heap_alloc_new (w.alloc a) o; rwa [World.size_alloc] at this
theorem heap_k2 (w : World) (a b o : Obj) : (((w.alloc a).alloc b).alloc o).heap[w.heap.size + 1 + 1]? = some o := by
  have := heap_alloc_new ((w.alloc a).alloc b) o; rwa [World.size_alloc, World.size_alloc] at this
theorem results_c1 {P : Program} {fn : Func} {p : Tmp} {ty : TypeId} (h : fn.results = #[.cell p ty]) (tmps : Array Value) (w : World) (g : Nat) (t : TypeId) (cs : Array Value) (fr : Nat × Nat) (d : TypeDesc)
    (hp : tmps.getD p undef = .pointer (some ⟨g, 0, none⟩)) (hg : w.heap[g]? = some (.cells cs t fr))
    (hu : P.underlying ty = some d) (hd : (match d with | .struct _ | .array _ _ => true | _ => false) = true) (hi : (P.info? ty).map (·.size) = some cs.size) :
    (results fn tmps).run P w = .ok (.agg cs) w := by
  have hp' : tmps[p]?.getD undef = .pointer (some ⟨g, 0, none⟩) := by simpa using hp
  simp [results, h, hp', asAddr, run_loadVar_row w g t ty cs fr d hg hu hd hi]
theorem put4 {w : World} {g : Nat} {a b c d a' b' c' d' : Value} {t : TypeId} (h : w.heap[g]? = some (.cells #[a, b, c, d] t (0, 0))) :
    ((((w.setCell ⟨g, 0, none⟩ a').setCell ⟨g, 1, none⟩ b').setCell ⟨g, 2, none⟩ c').setCell ⟨g, 3, none⟩ d').heap[g]? = some (.cells #[a', b', c', d'] t (0, 0)) :=
  blk_put (cs := #[a', b', c', d]) (blk_put (cs := #[a', b', c, d]) (blk_put (cs := #[a', b, c, d]) (blk_put (cs := #[a, b, c, d]) h 0 a' rfl) 1 b' rfl) 2 c' rfl) 3 d' rfl
theorem box4 {w : World} {g : Nat} {a b c d : Value} {t : TypeId} (h : w.heap[g]? = some (.cells #[a, b, c, d] t (0, 0))) :
    (w.cell? ⟨g, 0, none⟩ = some a ∧ w.cell? ⟨g, 1, none⟩ = some b ∧ w.cell? ⟨g, 2, none⟩ = some c ∧ w.cell? ⟨g, 3, none⟩ = some d) ∧ (w.frozen? ⟨g, 0, none⟩ = false ∧ w.frozen? ⟨g, 1, none⟩ = false ∧ w.frozen? ⟨g, 2, none⟩ = false ∧ w.frozen? ⟨g, 3, none⟩ = false) :=
  ⟨⟨blk_cell h 0, blk_cell h 1, blk_cell h 2, blk_cell h 3⟩, blk_frozen h 0, blk_frozen h 1, blk_frozen h 2, blk_frozen h 3⟩
theorem box1 {w : World} {g : Nat} {a : Value} {t : TypeId} (h : w.heap[g]? = some (.cells #[a] t (0, 0))) : w.cell? ⟨g, 0, none⟩ = some a ∧ w.frozen? ⟨g, 0, none⟩ = false := ⟨blk_cell h 0, blk_frozen h 0⟩
end Go.Proofs.YtnegblckbomgdaaDoor.Mem
end
section
namespace Go.Proofs.YtnegblckbomgdaaDoor.Mem
open Go Go.RowKit Go.Proofs.YtnegblckbomgdaaDoorW.PrintWords
theorem run_append_slv {P : Program} (W : World) (base : Nat) (t tt e : TypeId) (z : Value) (bytes : Nat) (ht : P.underlying t = some (.slice e)) (hinfo : (P.info? e).map (fun i => (i.zero, i.size, i.bytes)) = some (some z, 1, bytes)) (hz : z.cells.size = 1) (hb0 : 0 < bytes)
    (v : Value) (n : Nat) (xs ys : List Value) (A : Option Addr) (m c : Nat) (K : Nat → Prop) (HO : W.ownsRow base e 1 v n xs) (HR : SlV K W (.slice A m c) ys) (hbase : base ≤ W.heap.size) (hl : (n + ys.length) * bytes ≤ 140737488355328) :
    ∃ v1 w1, (Builtin.append_ #[t, t] tt #[v, .slice A m c]).run P W = .ok v1 w1 ∧ w1.ownsRow base e 1 v1 (n + ys.length) (xs ++ ys) ∧ W.grownBy w1 v.ownBlock ∧ (v1.ownBlock = v.ownBlock ∨ v1.ownBlock = some W.heap.size) := by
  obtain ⟨i0, hi, hzz⟩ := Option.map_eq_some_iff.1 hinfo
  simp only [Prod.mk.injEq] at hzz
  obtain ⟨hz0, hz1, hz2⟩ := hzz
  have hm := HR.len
  have hlen : n + ys.length ≤ 140737488355328 := Nat.le_trans (Nat.le_mul_of_pos_right _ hb0) hl
  rcases Nat.eq_zero_or_pos ys.length with h0 | h0
  · obtain rfl := List.eq_nil_of_length_eq_zero h0
    obtain rfl : m = 0 := hm
    refine ⟨v, W, ?_, by simpa using HO, World.grownBy.refl W _, .inl rfl⟩
    cases A <;> rcases HO.2 with ⟨rfl, hn⟩ | ⟨g, cap, cur, rfl, _, _, hnc, _⟩
    · simp [Builtin.append_, run_underlying ht, sizeOf, typeInfo, hi, Builtin.lenOf, Builtin.firstCells]
    · simp [Builtin.append_, run_underlying ht, sizeOf, typeInfo, hi, Builtin.lenOf, Builtin.firstCells, hnc, storeCells]
    · simp [Builtin.append_, run_underlying ht, sizeOf, typeInfo, hi, Builtin.lenOf, Builtin.firstCells, loadCells, loadCellsFrom]
    · simp [Builtin.append_, run_underlying ht, sizeOf, typeInfo, hi, Builtin.lenOf, Builtin.firstCells, hnc, storeCells, loadCells, loadCellsFrom]
  · obtain ⟨ad, rfl, hc⟩ := HR.addr h0
    obtain ⟨v1, w1, hr, h2, h3, _, h5⟩ := run_append_own_at (P := P) W base t tt e i0 z 1 bytes ht hi hz0 hz1 hz2 hz (by omega) v n xs HO ad m c ys (by omega) hc HR.one (by simp only [maxLen]; omega) (by rw [hm]; exact hl) hbase
    rw [hm] at h2
    exact ⟨v1, w1, hr, h2, h3, h5⟩
section
variable {P : Program} {ops : Array Oper} {o : Oper} {rest : List Oper} {a : Act} {Q : Exit → Act → World → Prop} {KK : Act → World → Prop}
theorem step_append_slv {W : World} {E : Prop} (hgd : o.guard = none) (s x : Operand) (t e : TypeId) (z : Value) (bytes : Nat) (ho : o.op = .call { callee := .builtin .append, args := #[s, x], argTypes := #[t, t] })
    (ht : P.underlying t = some (.slice e)) (hinfo : (P.info? e).map (fun i => (i.zero, i.size, i.bytes)) = some (some z, 1, bytes)) (hz : z.cells.size = 1) (hb0 : 0 < bytes)
    (base : Nat) (v : Value) (n : Nat) (xs ys : List Value) (A : Option Addr) (m c : Nat) (K : Nat → Prop) (hs : a.eval s = v) (hx : a.eval x = .slice A m c)
    (HO : W.ownsRow base e 1 v n xs) (HR : SlV K W (.slice A m c) ys) (hbase : base ≤ W.heap.size) (hl : (n + ys.length) * bytes ≤ 140737488355328)
    (h : ∀ v1 w1, w1.ownsRow base e 1 v1 (n + ys.length) (xs ++ ys) → W.grownBy w1 v.ownBlock → (v1.ownBlock = v.ownBlock ∨ v1.ownBlock = some W.heap.size) → KK (a.put o.dst v1) w1) :
    if Region.wanted o (yielded ops a.tmps) = true then Oper.wp P o a W KK Q else E := by
  have hw : Region.wanted o (yielded ops a.tmps) = true := by simp [Region.wanted, hgd]
  rw [if_pos hw]
  obtain ⟨v1, w1, hr, hown, hg, hat⟩ := run_append_slv (P := P) W base t o.type e z bytes ht hinfo hz hb0 v n xs ys A m c K HO HR hbase hl
  unfold Oper.wp execOp
  simp only [ho, resolve, invoke, builtin, Sem.run_bind, Sem.run_pure, Result.andThen_ok, List.map_toArray, List.map_cons, List.map_nil, hs, hx, hr]
  exact h v1 w1 hown hg hat
end
theorem below_grown {w W w1 : World} {base : Nat} {e : TypeId} {size n : Nat} {v : Value} {xs : List Value} (h : Below w.heap.size w W) (hg : W.grownBy w1 v.ownBlock) (ho : W.ownsRow base e size v n xs) (hb : w.heap.size ≤ base) : Below w.heap.size w w1 :=
  h.grown hg h.size fun k hk => Nat.le_trans hb (own_base ho k hk)
theorem SlV.take {K : Nat → Prop} {w : World} {A : Option Addr} {n c : Nat} {xs : List Value} (h : SlV K w (.slice A n c) xs) (k : Nat) (hk : k ≤ xs.length) : SlV K w (.slice A k c) (xs.take k) := by
  obtain ⟨A', c', he, h1, h2, h3, h4⟩ := h
  injection he with e1 e2 e3
  subst e1 e3
  have hl : (xs.take k).length = k := by rw [List.length_take]; omega
  refine ⟨A, c, by rw [hl], by rw [hl]; omega, h2, fun hp => ?_, fun u hu => h4 u (List.mem_of_mem_take hu)⟩
  obtain ⟨ad, e, hK, hc⟩ := h3 (by omega)
  refine ⟨ad, e, hK, fun j u hu => hc j u ?_⟩
  have hj : j < k := by have := (List.getElem?_eq_some_iff.1 hu).1; omega
  rwa [List.getElem?_take_of_lt hj] at hu
theorem SlV.drop {K : Nat → Prop} {w : World} {ad : Addr} {n c : Nat} {xs : List Value} (h : SlV K w (.slice (some ad) n c) xs) (k : Nat) (hk : k ≤ xs.length) : SlV K w (.slice (some (ad.add k)) (n - k) (c - k)) (xs.drop k) := by
  obtain ⟨A', c', he, h1, h2, h3, h4⟩ := h
  injection he with e1 e2 e3
  subst e2 e3
  cases e1
  have hl : (xs.drop k).length = xs.length - k := List.length_drop
  refine ⟨some (ad.add k), c - k, by rw [hl], by rw [hl]; omega, by omega, fun hp => ?_, fun u hu => h4 u (List.mem_of_mem_drop hu)⟩
  obtain ⟨ad', e, hK, hc⟩ := h3 (by omega)
  cases e
  have hb : (ad.add k).block = ad.block := by unfold Addr.add; split <;> rfl
  refine ⟨_, rfl, by rw [hb]; exact hK, fun j u hu => ?_⟩
  have hadd : (ad.add k).add j = ad.add (k + j) := by
    unfold Addr.add
    by_cases h1 : k = 0 <;> by_cases h2 : j = 0 <;> simp [h1, h2, Nat.add_assoc]
  rw [hadd]
  exact hc (k + j) u (by rwa [List.getElem?_drop] at hu)
end Go.Proofs.YtnegblckbomgdaaDoor.Mem
end
section
namespace Go.Proofs.YtnegblckbomgdaaDoor.Mem
open Go Go.RowKit Go.Proofs.YtnegblckbomgdaaDoorW.PrintWords
variable {P : Program}
theorem run_copy_k (k : Nat) (w : World) (dT sT ty elem : TypeId) (b o dLen dCap : Nat) (a : Addr) (sLen sCap : Nat) (cs : List Value)
    (hu : P.underlying dT = some (.slice elem)) (hs : (P.info? elem).map (·.size) = some k) (hn : cs.length = Nat.min sLen dLen * k)
    (hsrc : ∀ j v, cs[j]? = some v → w.cell? (a.add j) = some v) (hc : ∀ j, j < cs.length → (w.cell? ⟨b, o + j, none⟩).isSome = true) (hf : ∀ j, j < cs.length → w.frozen? ⟨b, o + j, none⟩ = false) (h1 : ∀ v ∈ cs, v.oneCell' = true) :
    (Builtin.copy_ #[dT, sT] ty #[.slice (some ⟨b, o, none⟩) dLen dCap, .slice (some a) sLen sCap]).run P w = .ok (goInt (Nat.min sLen dLen)) (w.setCells b o cs) := by
  have hl := run_loadCells_list (P := P) w a cs hsrc
  have hst := run_storeCells_cells (P := P) b o cs 0 w (by simpa using hc) (by simpa using hf) h1
  cases hq : P.info? elem with
  | none => simp [hq] at hs
  | some i =>
    have hi : i.size = k := by simpa [hq] using hs
    simp [Builtin.copy_, run_underlying hu, Builtin.lenOf, Builtin.firstCells, sizeOf, typeInfo, hq, hi, ← hn, hl, hst]
theorem run_copy_k0 (k : Nat) (w : World) (dT sT ty elem : TypeId) (d a : Option Addr) (dLen dCap sLen sCap : Nat) (hu : P.underlying dT = some (.slice elem)) (hs : (P.info? elem).map (·.size) = some k) (hn : Nat.min sLen dLen = 0) :
    (Builtin.copy_ #[dT, sT] ty #[.slice d dLen dCap, .slice a sLen sCap]).run P w = .ok (goInt 0) w := by
  cases hq : P.info? elem with
  | none => simp [hq] at hs
  | some i =>
    have hl : ∀ (x : Addr), (loadCells x 0).run P w = .ok #[] w := fun x => by simpa using run_loadCells_list (P := P) w x [] (by simp)
    cases d <;> cases a <;> simp [Builtin.copy_, run_underlying hu, Builtin.lenOf, Builtin.firstCells, sizeOf, typeInfo, hq, hn, storeCells, hl]
def SlK (k : Nat) (K : Nat → Prop) (w : World) (v : Value) (n : Nat) (cs : List Value) : Prop :=
  ∃ A c, v = .slice A n c ∧ n ≤ c ∧ c ≤ maxLen ∧ cs.length = n * k ∧ (0 < n → ∃ g : Nat, A = some ⟨g, 0, none⟩ ∧ K g ∧ ∀ (j : Nat) (u : Value), cs[j]? = some u → w.cell? ⟨g, j, none⟩ = some u) ∧ ∀ u ∈ cs, u.oneCell' = true
section
variable {k : Nat} {K K' : Nat → Prop} {w w' : World} {v : Value} {n : Nat} {cs : List Value}
theorem SlK.nil (k : Nat) (K : Nat → Prop) (w : World) : SlK k K w (.slice none 0 0) 0 [] := ⟨none, 0, rfl, Nat.le_refl _, by simp [maxLen], by simp, fun h => absurd h (by simp), fun u h => by cases h⟩
theorem SlK.zero (k : Nat) (K : Nat → Prop) (w : World) (A : Option Addr) (c : Nat) (hc : c ≤ maxLen) : SlK k K w (.slice A 0 c) 0 [] := ⟨A, c, rfl, Nat.zero_le _, hc, by simp, fun h => absurd h (by simp), fun u h => by cases h⟩
theorem SlK.len {A : Option Addr} {m c : Nat} (h : SlK k K w (.slice A m c) n cs) : m = n := by
  obtain ⟨A', c', he, _⟩ := h
  injection he
theorem SlK.size (h : SlK k K w v n cs) : cs.length = n * k := by
  obtain ⟨_, _, _, _, _, h, _⟩ := h; exact h
theorem SlK.form (h : SlK k K w v n cs) : ∃ A c, v = .slice A n c := by
  obtain ⟨A, c, rfl, _⟩ := h
  exact ⟨A, c, rfl⟩
theorem SlK.one (h : SlK k K w v n cs) : ∀ u ∈ cs, u.oneCell' = true := by
  obtain ⟨_, _, _, _, _, _, _, h⟩ := h; exact h
theorem SlK.addr {A : Option Addr} {m c : Nat} (h : SlK k K w (.slice A m c) n cs) (hp : 0 < n) : ∃ g, A = some ⟨g, 0, none⟩ ∧ K g ∧ ∀ (j : Nat) (u : Value), cs[j]? = some u → w.cell? ⟨g, j, none⟩ = some u := by
  obtain ⟨A', c', he, _, _, _, h3, _⟩ := h
  injection he with hA _ _
  obtain ⟨g, e, hk, hc⟩ := h3 hp
  exact ⟨g, by rw [hA, e], hk, hc⟩
theorem SlK.cap {A : Option Addr} {m c : Nat} (h : SlK k K w (.slice A m c) n cs) : n ≤ c ∧ c ≤ maxLen := by
  obtain ⟨A', c', he, h1, h2, _⟩ := h
  injection he with _ _ e
  subst e
  exact ⟨h1, h2⟩
theorem SlK.mono (h : SlK k K w v n cs) (hK : ∀ b, K b → K' b) : SlK k K' w v n cs := by
  obtain ⟨A, c, rfl, h1, h2, h5, h3, h4⟩ := h
  refine ⟨A, c, rfl, h1, h2, h5, fun hp => ?_, h4⟩
  obtain ⟨g, rfl, hk, hc⟩ := h3 hp
  exact ⟨g, rfl, hK _ hk, hc⟩
theorem SlK.keep (h : SlK k K w v n cs) (hk : ∀ b, K b → b < w.heap.size → w'.heap[b]? = w.heap[b]?) : SlK k K w' v n cs := by
  obtain ⟨A, c, rfl, h1, h2, h5, h3, h4⟩ := h
  refine ⟨A, c, rfl, h1, h2, h5, fun hp => ?_, h4⟩
  obtain ⟨g, rfl, hK, hc⟩ := h3 hp
  refine ⟨g, rfl, hK, fun j u hu => ?_⟩
  have hc' := hc j u hu
  rw [← hc']
  exact World.cell?_of_block (hk _ hK (block_lt hc'))
theorem SlK.below (h : SlK k K w v n cs) (hb : Below w.heap.size w w') : SlK k K w' v n cs := h.keep fun b _ hlt => hb.block b hlt
theorem SlK.bound (h : SlK k K w v n cs) (hk : 0 < k) : SlK k (fun b => K b ∧ b < w.heap.size) w v n cs := by
  obtain ⟨A, c, rfl, h1, h2, h5, h3, h4⟩ := h
  refine ⟨A, c, rfl, h1, h2, h5, fun hp => ?_, h4⟩
  obtain ⟨g, rfl, hK, hc⟩ := h3 hp
  have hpos : 0 < cs.length := by rw [h5]; exact Nat.mul_pos hp hk
  exact ⟨g, rfl, ⟨hK, block_lt (hc 0 (cs[0]'hpos) (List.getElem?_eq_getElem hpos))⟩, hc⟩
theorem SlK.take {A : Option Addr} {m c : Nat} (h : SlK k K w (.slice A m c) n cs) (i : Nat) (hi : i ≤ n) : SlK k K w (.slice A i c) i (cs.take (i * k)) := by
  obtain ⟨A', c', he, h1, h2, h5, h3, h4⟩ := h
  injection he with e1 e2 e3
  subst e1 e3
  have hm : i * k ≤ n * k := Nat.mul_le_mul_right _ hi
  refine ⟨A, c, rfl, by omega, h2, by rw [List.length_take]; omega, fun hp => ?_, fun u hu => h4 u (List.mem_of_mem_take hu)⟩
  obtain ⟨g, e, hK, hc⟩ := h3 (by omega)
  refine ⟨g, e, hK, fun j u hu => hc j u ?_⟩
  have hj : j < i * k := by have := (List.getElem?_eq_some_iff.1 hu).1; rw [List.length_take] at this; omega
  rwa [List.getElem?_take_of_lt hj] at hu
theorem SlK.blk {g c : Nat} {cur : List Value} {t : TypeId} (h : w.heap[g]? = some (.cells cur.toArray t (0, 0))) (hx : ∀ (j : Nat) (u : Value), cs[j]? = some u → cur[j]? = some u) (hn : cs.length = n * k) (hc : n ≤ c) (hm : c ≤ maxLen) (h1 : ∀ u ∈ cs, u.oneCell' = true) (hK : K g) :
    SlK k K w (.slice (some ⟨g, 0, none⟩) n c) n cs :=
  ⟨_, c, rfl, hc, hm, hn, fun _ => ⟨g, rfl, hK, fun j u hu => by rw [blk_cell h]; simpa using hx j u hu⟩, h1⟩
end
theorem below_setCells {B g : Nat} {w0 w : World} (hb : Below B w0 w) (hBg : B ≤ g) (o : Nat) (cs : List Value) : Below B w0 (w.setCells g o cs) := by
  obtain ⟨h1, h2, h3, h4⟩ := setCells_same g cs o w
  exact hb.trans ⟨h1, h2, h3, by rw [h4]; exact Nat.le_refl _, fun k hk => setCells_far cs o k (by omega)⟩
theorem row_splice {w : World} {g : Nat} {e : TypeId} (cs cur : List Value) (o : Nat) (h : w.heap[g]? = some (.cells cur.toArray e (0, 0))) (hf : o + cs.length ≤ cur.length) :
    (w.setCells g o cs).heap[g]? = some (.cells (splice cur o cs).toArray e (0, 0)) := by
  obtain ⟨cur', h1, h2, h3⟩ := setCells_row cs o w cur.toArray h (by simpa using hf)
  rw [h1]
  congr 2
  apply Array.toList_inj.1
  rw [h3]
  simp [splice]
section
variable {w : World} {ops : Array Oper} {rest : List Oper} {o : Oper} {a : Act} {Q : Exit → Act → World → Prop}
theorem run_copy_splice_k (k : Nat) (w : World) (dT sT ty elem : TypeId) (hu : P.underlying dT = some (.slice elem)) (hs : (P.info? elem).map (·.size) = some k) (hk : 0 < k)
    (dp sp : Option Addr) (dLen dCap sLen sCap : Nat) (g off : Nat) (cur : List Value) (t : TypeId) (hg : w.heap[g]? = some (.cells cur.toArray t (0, 0))) (cs : List Value) (hn : cs.length = Nat.min sLen dLen * k)
    (hpos : 0 < cs.length → dp = some ⟨g, off, none⟩ ∧ ∃ ad, sp = some ad ∧ ∀ j v, cs[j]? = some v → w.cell? (ad.add j) = some v)
    (hfit : off + cs.length ≤ cur.length) (h1 : ∀ v ∈ cs, v.oneCell' = true) (B : Nat) (w0 : World) (hb : Below B w0 w) (hBg : B ≤ g) :
    ∃ w', (Builtin.copy_ #[dT, sT] ty #[.slice dp dLen dCap, .slice sp sLen sCap]).run P w = .ok (goInt (Nat.min sLen dLen)) w' ∧ w'.heap[g]? = some (.cells (splice cur off cs).toArray t (0, 0)) ∧ Below B w0 w' := by
  by_cases h0 : cs.length = 0
  · obtain rfl : cs = [] := List.eq_nil_of_length_eq_zero h0
    have hm : Nat.min sLen dLen = 0 := by
      rcases Nat.eq_zero_or_pos (Nat.min sLen dLen) with h | h
      · exact h
      · have := Nat.mul_pos h hk; simp at hn; omega
    exact ⟨w, by rw [hm]; exact run_copy_k0 k w dT sT ty elem dp sp dLen dCap sLen sCap hu hs hm, by simpa [splice] using hg, hb⟩
  · obtain ⟨rfl, ad, rfl, hsrc⟩ := hpos (by omega)
    refine ⟨w.setCells g off cs, run_copy_k k w dT sT ty elem g off dLen dCap ad sLen sCap cs hu hs hn hsrc ?_ ?_ h1, row_splice cs cur off hg hfit, below_setCells hb hBg _ _⟩
    · intro j hj
      rw [blk_cell hg]
      have : off + j < cur.length := by omega
      simp [this]
    · intro j hj
      exact blk_frozen hg _
theorem wpList_copy_k (hgd : o.guard = none) (d s : Operand) (dT sT : TypeId)
    (ho : o.op = .call { callee := .builtin .copy, args := #[d, s], argTypes := #[dT, sT] }) (elem : TypeId) (k : Nat) (hu : P.underlying dT = some (.slice elem)) (hsz : (P.info? elem).map (·.size) = some k) (hk : 0 < k)
    (dp sp : Option Addr) (dLen dCap sLen sCap : Nat) (hd : a.eval d = .slice dp dLen dCap) (hs : a.eval s = .slice sp sLen sCap)
    (g off : Nat) (cur : List Value) (t : TypeId) (hg : w.heap[g]? = some (.cells cur.toArray t (0, 0))) (cs : List Value) (hn : cs.length = Nat.min sLen dLen * k)
    (hpos : 0 < cs.length → dp = some ⟨g, off, none⟩ ∧ ∃ ad, sp = some ad ∧ ∀ j v, cs[j]? = some v → w.cell? (ad.add j) = some v)
    (hfit : off + cs.length ≤ cur.length) (h1 : ∀ v ∈ cs, v.oneCell' = true) (B : Nat) (w0 : World) (hb : Below B w0 w) (hBg : B ≤ g)
    (h : ∀ w', Hid (w'.heap[g]? = some (.cells (splice cur off cs).toArray t (0, 0))) → Below B w0 w' → wpList P ops Q rest (a.put o.dst (goInt (Nat.min sLen dLen))) w') :
    wpList P ops Q (o :: rest) a w := by
  obtain ⟨w', hr, hg', hb'⟩ := run_copy_splice_k (P := P) k w dT sT o.type elem hu hsz hk dp sp dLen dCap sLen sCap g off cur t hg cs hn hpos hfit h1 B w0 hb hBg
  refine wpList_plain hgd fun K hK => ?_
  unfold Oper.wp
  simp [execOp, ho, resolve, invoke, builtin, hd, hs, hr, Result.andThen]
  exact hK _ _ (h w' (Lib.hid hg') hb')
end
theorem box2 {w : World} {g : Nat} {a b : Value} {t : TypeId} (h : w.heap[g]? = some (.cells #[a, b] t (0, 0))) : (w.cell? ⟨g, 0, none⟩ = some a ∧ w.cell? ⟨g, 1, none⟩ = some b) ∧ w.frozen? ⟨g, 0, none⟩ = false ∧ w.frozen? ⟨g, 1, none⟩ = false :=
  ⟨⟨blk_cell h 0, blk_cell h 1⟩, blk_frozen h 0, blk_frozen h 1⟩
theorem box3 {w : World} {g : Nat} {a b c : Value} {t : TypeId} (h : w.heap[g]? = some (.cells #[a, b, c] t (0, 0))) : (w.cell? ⟨g, 0, none⟩ = some a ∧ w.cell? ⟨g, 1, none⟩ = some b ∧ w.cell? ⟨g, 2, none⟩ = some c) ∧ w.frozen? ⟨g, 0, none⟩ = false ∧ w.frozen? ⟨g, 1, none⟩ = false ∧ w.frozen? ⟨g, 2, none⟩ = false :=
  ⟨⟨blk_cell h 0, blk_cell h 1, blk_cell h 2⟩, blk_frozen h 0, blk_frozen h 1, blk_frozen h 2⟩
theorem put2 {w : World} {g : Nat} {a b a' b' : Value} {t : TypeId} (h : w.heap[g]? = some (.cells #[a, b] t (0, 0))) :
    ((w.setCell ⟨g, 0, none⟩ a').setCell ⟨g, 1, none⟩ b').heap[g]? = some (.cells #[a', b'] t (0, 0)) := blk_put (cs := #[a', b]) (blk_put (cs := #[a, b]) h 0 a' rfl) 1 b' rfl
theorem put3 {w : World} {g : Nat} {a b c a' b' c' : Value} {t : TypeId} (h : w.heap[g]? = some (.cells #[a, b, c] t (0, 0))) :
    (((w.setCell ⟨g, 0, none⟩ a').setCell ⟨g, 1, none⟩ b').setCell ⟨g, 2, none⟩ c').heap[g]? = some (.cells #[a', b', c'] t (0, 0)) :=
  blk_put (cs := #[a', b', c]) (blk_put (cs := #[a', b, c]) (blk_put (cs := #[a, b, c]) h 0 a' rfl) 1 b' rfl) 2 c' rfl
theorem below_put3 {w0 w : World} {g : Nat} (h : Below w0.heap.size w0 w) (hg : w0.heap.size ≤ g) (a b c : Value) : Below w0.heap.size w0 (((w.setCell ⟨g, 0, none⟩ a).setCell ⟨g, 1, none⟩ b).setCell ⟨g, 2, none⟩ c) :=
  ((h.setCell (p := ⟨g, 0, none⟩) hg _).setCell (p := ⟨g, 1, none⟩) hg _).setCell (p := ⟨g, 2, none⟩) hg _
theorem below_put2 {w0 w : World} {g : Nat} (h : Below w0.heap.size w0 w) (hg : w0.heap.size ≤ g) (a b : Value) : Below w0.heap.size w0 ((w.setCell ⟨g, 0, none⟩ a).setCell ⟨g, 1, none⟩ b) :=
  (h.setCell (p := ⟨g, 0, none⟩) hg _).setCell (p := ⟨g, 1, none⟩) hg _
theorem results_ct {fn : Func} {p r : Tmp} {ty : TypeId} (h : fn.results = #[.cell p ty, .tmp r]) (tmps : Array Value) (w : World) (g : Nat) (t : TypeId) (cs : Array Value) (fr : Nat × Nat) (d : TypeDesc) (v : Value)
    (hp : tmps.getD p undef = .pointer (some ⟨g, 0, none⟩)) (hv : tmps.getD r undef = v) (hg : w.heap[g]? = some (.cells cs t fr))
    (hu : P.underlying ty = some d) (hd : (match d with | .struct _ | .array _ _ => true | _ => false) = true) (hi : (P.info? ty).map (·.size) = some cs.size) :
    (results fn tmps).run P w = .ok (.tuple #[.agg cs, v]) w := by
  have hp' : tmps[p]?.getD undef = .pointer (some ⟨g, 0, none⟩) := by simpa using hp
  have hv' : tmps[r]?.getD undef = v := by simpa using hv
  simp [results, h, hp', hv', asAddr, run_loadVar_row w g t ty cs fr d hg hu hd hi]
theorem results_tct {fn : Func} {p q r : Tmp} {ty : TypeId} (h : fn.results = #[.tmp q, .cell p ty, .tmp r]) (tmps : Array Value) (w : World) (g : Nat) (t : TypeId) (cs : Array Value) (fr : Nat × Nat) (d : TypeDesc) (u v : Value)
    (hq : tmps.getD q undef = u) (hp : tmps.getD p undef = .pointer (some ⟨g, 0, none⟩)) (hv : tmps.getD r undef = v) (hg : w.heap[g]? = some (.cells cs t fr))
    (hu : P.underlying ty = some d) (hd : (match d with | .struct _ | .array _ _ => true | _ => false) = true) (hi : (P.info? ty).map (·.size) = some cs.size) :
    (results fn tmps).run P w = .ok (.tuple #[u, .agg cs, v]) w := by
  have hq' : tmps[q]?.getD undef = u := by simpa using hq
  have hp' : tmps[p]?.getD undef = .pointer (some ⟨g, 0, none⟩) := by simpa using hp
  have hv' : tmps[r]?.getD undef = v := by simpa using hv
  simp [results, h, hq', hp', hv', asAddr, run_loadVar_row w g t ty cs fr d hg hu hd hi]
theorem slice_from (k : Nat) (T E : TypeId) (hu : P.underlying T = some (.slice E)) (hs : (P.info? E).map (·.size) = some k) (a : Option Addr) (len cap l : Nat) (x : Int) (hx : x = (l : Int)) (hl : l ≤ len) (hc : len ≤ cap) :
    ∃ d, (l < cap → d = a.map (·.add (l * k))) ∧ ∀ W, (Instr.slice T (.slice a len cap) (some (.int .i64 x)) none none).run P W = .ok (.slice d (len - l) (cap - l)) W := by
  subst hx
  have he : P.elem T = E := by simp [Program.elem, hu]
  refine ⟨if cap = l then a else a.map (·.add (l * k)), fun h => if_neg (by omega), fun W => ?_⟩
  have h0 : (0 : Int) ≤ (l : Int) := by omega
  have h1 : (l : Int) ≤ (len : Int) := by omega
  cases hq : P.info? E with
  | none => simp [hq] at hs
  | some i =>
    have hi : i.size = k := by simpa [hq] using hs
    rw [run_slice_any W T a len cap (by rw [he]; exact hu), he]
    simp [Instr.sliceBounds, go_sem, sizeOf, typeInfo, hq, hi, sliced, h0, h1, hl, hc]
end Go.Proofs.YtnegblckbomgdaaDoor.Mem
end
section
namespace Go.Proofs.YtnegblckbomgdaaDoor.Ht
open Go Go.RowKit Go.Proofs.YtnegblckbomgdaaDoor.Mem Go.Proofs.YtnegblckbomgdaaDoorW.PrintWords
theorem below_drewN (n : Nat) (w : World) : Below w.heap.size w (w.drewN n) := by
  induction n with
  | zero => exact Below.refl _ _
  | succ n ih => exact ih.drew
theorem wraps_u32 (n : Int) (h₀ : 0 ≤ n) (h₁ : n < 2 ^ 32) : IntKind.u32.wrap n = n := by rw [IntKind.wrap_u32]; omega
theorem and_u32 (a b : Nat) (ha : a < 4294967296) (hb : b < 4294967296) : Go.bits .and .u32 (a : Int) (b : Int) = ((a &&& b : Nat) : Int) :=
  (bits_nat .u32 32 (by decide) wraps_u32 a b (by omega) (by omega)).1
theorem or_u32 (a b : Nat) (ha : a < 4294967296) (hb : b < 4294967296) : Go.bits .or .u32 (a : Int) (b : Int) = ((a ||| b : Nat) : Int) :=
  (bits_nat .u32 32 (by decide) wraps_u32 a b (by omega) (by omega)).2
theorem mask255 (a : Nat) (ha : a < 4294967296) : Go.bits .and .u32 (a : Int) 255 = ((a % 256 : Nat) : Int) := by
  have := and_u32 a 255 ha (by decide)
  rw [show ((255 : Nat) : Int) = 255 from rfl] at this
  rw [this, show (255 : Nat) = 2 ^ 8 - 1 from rfl, Nat.and_two_pow_sub_one_eq_mod]
set_option maxRecDepth 100000 in
set_option maxHeartbeats 4000000 in
theorem ones_walk (b : Int) (w : World) (p0 : 0 ≤ b / 16777216) (q0 : b / 16777216 ≤ 255) (p1 : 0 ≤ Go.bits .and .u32 (b / 65536) 255) (q1 : Go.bits .and .u32 (b / 65536) 255 ≤ 255) (p2 : 0 ≤ Go.bits .and .u32 (b / 256) 255) (q2 : Go.bits .and .u32 (b / 256) 255 ≤ 255) (p3 : 0 ≤ Go.bits .and .u32 b 255) (q3 : Go.bits .and .u32 b 255 ≤ 255) (hs : 0 ≤ Lib.pop8 (b / 16777216) + Lib.pop8 (Go.bits .and .u32 (b / 65536) 255) + Lib.pop8 (Go.bits .and .u32 (b / 256) 255) + Lib.pop8 (Go.bits .and .u32 b 255)) (hs' : Lib.pop8 (b / 16777216) + Lib.pop8 (Go.bits .and .u32 (b / 65536) 255) + Lib.pop8 (Go.bits .and .u32 (b / 256) 255) + Lib.pop8 (Go.bits .and .u32 b 255) ≤ 255) :
    Calls Tryd.prog 126 #[.int .u32 b] w fun e w' => e = .returned (.int .i64 ((Lib.pop8 (b / 16777216) + Lib.pop8 (Go.bits .and .u32 (b / 65536) 255) + Lib.pop8 (Go.bits .and .u32 (b / 256) 255) + Lib.pop8 (Go.bits .and .u32 b 255)) % 256)) ∧ ∃ n, w' = w.drewN n := by
  clear hs hs'
  go_enter Tryd.func126, Tryd.ntmps126
  go_wp2
  go_quiet (fail)
  go_wp2
  go_ret
  exact ⟨rfl, _, rfl⟩
theorem pop8_popc : ∀ n : Fin 256, Lib.pop8 (n.val : Int) = (popc 8 n.val : Int) := by decide +kernel
theorem popc_le (n b : Nat) : popc n b ≤ n := by
  have := List.length_filter_le (fun i => b.testBit i) (List.range n)
  rwa [List.length_range] at this
theorem ones_c (b : Nat) (hb : b < 4294967296) (w : World) :
    Calls Tryd.prog 126 #[.int .u32 (b : Int)] w (Ret (fun v _ => v = .int .i64 (popc 32 b : Int)) w) := by
  have e0 : (b : Int) / 16777216 = ((b / 16777216 : Nat) : Int) := by omega
  have e1 : Go.bits .and .u32 ((b : Int) / 65536) 255 = ((b / 65536 % 256 : Nat) : Int) := by
    rw [show (b : Int) / 65536 = ((b / 65536 : Nat) : Int) by omega, mask255 _ (by omega)]
  have e2 : Go.bits .and .u32 ((b : Int) / 256) 255 = ((b / 256 % 256 : Nat) : Int) := by
    rw [show (b : Int) / 256 = ((b / 256 : Nat) : Int) by omega, mask255 _ (by omega)]
  have e3 : Go.bits .and .u32 (b : Int) 255 = ((b % 256 : Nat) : Int) := mask255 _ hb
  have g0 : Lib.pop8 ((b / 16777216 : Nat) : Int) = (popc 8 (b / 16777216) : Int) := pop8_popc ⟨b / 16777216, by omega⟩
  have g1 : Lib.pop8 ((b / 65536 % 256 : Nat) : Int) = (popc 8 (b / 65536) : Int) := by
    rw [← popc_mod]; exact pop8_popc ⟨b / 65536 % 256, by omega⟩
  have g2 : Lib.pop8 ((b / 256 % 256 : Nat) : Int) = (popc 8 (b / 256) : Int) := by
    rw [← popc_mod]; exact pop8_popc ⟨b / 256 % 256, by omega⟩
  have g3 : Lib.pop8 ((b % 256 : Nat) : Int) = (popc 8 b : Int) := by
    rw [← popc_mod]; exact pop8_popc ⟨b % 256, by omega⟩
  have s1 : popc 32 b = popc 8 b + popc 8 (b / 256) + popc 8 (b / 65536) + popc 8 (b / 16777216) := by
    have t1 : popc 32 b = popc 8 b + popc 24 (b / 256) := popc_split 8 24 b
    have q1 : b / 2 ^ 8 / 2 ^ 8 = b / 65536 := by omega
    have q2 : b / 65536 / 2 ^ 8 = b / 16777216 := by omega
    have t2 : popc 24 (b / 256) = popc 8 (b / 256) + popc 16 (b / 65536) := by rw [← q1]; exact popc_split 8 16 (b / 256)
    have t3 : popc 16 (b / 65536) = popc 8 (b / 65536) + popc 8 (b / 16777216) := by rw [← q2]; exact popc_split 8 8 (b / 65536)
    omega
  have l0 := popc_le 8 (b / 16777216)
  have l1 := popc_le 8 (b / 65536)
  have l2 := popc_le 8 (b / 256)
  have l3 := popc_le 8 b
  have hw := ones_walk (b : Int) w (by rw [e0]; omega) (by rw [e0]; omega) (by rw [e1]; omega) (by rw [e1]; omega) (by rw [e2]; omega) (by rw [e2]; omega) (by rw [e3]; omega) (by rw [e3]; omega)
    (by rw [e0, e1, e2, e3, g0, g1, g2, g3]; omega) (by rw [e0, e1, e2, e3, g0, g1, g2, g3]; omega)
  rw [e0, e1, e2, e3, g0, g1, g2, g3] at hw
  refine hw.mono ?_
  rintro e w' ⟨rfl, n, rfl⟩
  have hx : ((popc 8 (b / 16777216) : Int) + (popc 8 (b / 65536) : Int) + (popc 8 (b / 256) : Int) + (popc 8 b : Int)) % 256 = (popc 32 b : Int) := by rw [s1]; omega
  rw [hx]
  exact ⟨_, rfl, rfl, below_drewN n w⟩
def Tab (w : World) : Prop := ∀ j, j < 32 → w.cell? ⟨0, j, none⟩ = some (.int .u8 (Lib.deBruijn32tab.getD j 0))
theorem Tab.below {w w' : World} (h : Tab w) (hb : Below w.heap.size w w') : Tab w' := fun j hj => cell_below (h j hj) hb
theorem tz_key (x a : Nat) (hx : x < 4294967296) (hx0 : x ≠ 0) (hlow : x &&& (4294967296 - x) = a) :
    Go.bits BinOp.and IntKind.u32 (x : Int) (-(x : Int) % 4294967296) * 125613361 % 4294967296 / 134217728 = ((a * 125613361 % 4294967296 / 134217728 : Nat) : Int) := by
  have e1 : -(x : Int) % 4294967296 = ((4294967296 - x : Nat) : Int) := by omega
  rw [e1, and_u32 x _ hx (by omega), hlow]
  omega
set_option maxHeartbeats 1000000 in
theorem tz_core (x k idx : Nat) (w : World) (hx0 : ((x : Int) == 0) = false)
    (key : Go.bits BinOp.and IntKind.u32 (x : Int) (-(x : Int) % 4294967296) * 125613361 % 4294967296 / 134217728 = (idx : Int))
    (hi : idx < 32) (hk : k < 32) (hcell : w.cell? ⟨0, idx, none⟩ = some (.int .u8 k)) :
    Calls Tryd.prog 121 #[.int .u32 x] w fun e w' => e = .returned (.int .i64 k) ∧ w' = w := by
  go_enter Tryd.func121, Tryd.ntmps121
  go_wp2_with (simp only [key])
  go_ret
  exact ⟨rfl, rfl⟩
theorem tz_c (x : Nat) (hx : x < 4294967296) (hx0 : x ≠ 0) (w : World) (hT : Tab w) :
    Calls Tryd.prog 121 #[.int .u32 x] w (Ret (fun v _ => v = .int .i64 (Lib.ctz 32 x : Int)) w) := by
  obtain ⟨hlow, hk⟩ := Lib.lowest_bit 32 x hx0 hx
  obtain ⟨hi, htab⟩ := Lib.deBruijn32_at _ hk
  have hcell := hT _ hi
  rw [htab] at hcell
  refine (tz_core x _ _ w (by simp; omega) (tz_key x _ hx hx0 hlow) hi hk hcell).mono ?_
  rintro e w' ⟨rfl, rfl⟩
  exact ⟨_, rfl, rfl, Below.refl _ _⟩
theorem ctzFrom_low (f : Nat → Bool) : ∀ (n i : Nat), i < n → f i = true → (∀ j, j < i → f j = false) → Lib.ctzFrom n (bitsN f n) = i := by
  suffices H : ∀ (n i : Nat) (x : Nat), i < n → x.testBit i = true → (∀ j, j < i → x.testBit j = false) → Lib.ctzFrom n x = i from
    fun n i hi hf hlo => H n i _ hi (by rw [bitsN_testBit]; simp [hi, hf]) fun j hj => by rw [bitsN_testBit, hlo j hj]; simp
  intro n
  induction n with
  | zero => intro i x hi; omega
  | succ n ih =>
    intro i x hi hx hlo
    unfold Lib.ctzFrom
    cases i with
    | zero =>
      rw [Nat.testBit_zero, decide_eq_true_eq] at hx
      rw [if_pos hx]
    | succ i =>
      have h0 := hlo 0 (by omega)
      rw [Nat.testBit_zero, decide_eq_false_iff_not] at h0
      rw [if_neg h0, ih i (x / 2) (by omega) (by rw [← Nat.testBit_succ]; exact hx) fun j hj => by rw [← Nat.testBit_succ]; exact hlo (j + 1) (by omega)]
      omega
theorem ctz_low (f : Nat → Bool) {i : Nat} (hi : i < 32) (hf : f i = true) (hlo : ∀ j, j < i → f j = false) : Lib.ctz 32 (bitsN f 32) = i := by
  unfold Lib.ctz
  rw [if_neg, ctzFrom_low f 32 i hi hf hlo]
  intro h
  have := bitsN_zero.1 h i hi
  rw [hf] at this; cases this
end Go.Proofs.YtnegblckbomgdaaDoor.Ht
end
section
namespace Go.Proofs.YtnegblckbomgdaaDoor.Ht
open Go Go.RowKit Go.Proofs.YtnegblckbomgdaaDoor.Mem Go.Proofs.YtnegblckbomgdaaDoorW.PrintWords
theorem pow_cast (i : Nat) : (2 : Int) ^ i = ((2 ^ i : Nat) : Int) := by simp
theorem pow_32 {i : Nat} (hi : i < 32) : 2 ^ i ≤ 2147483648 := by
  have := Nat.pow_le_pow_right (n := 2) (by decide) (show i ≤ 31 by omega)
  simpa using this
theorem mask_low (b i : Nat) (hb : b < 4294967296) (hi : i < 32) : Go.bits .and .u32 (b : Int) (((2 : Int) ^ i - 1) % 4294967296) = ((b % 2 ^ i : Nat) : Int) := by
  have h1 := pow_32 hi
  have h0 : 0 < 2 ^ i := Nat.pow_pos (by decide)
  have e : ((2 : Int) ^ i - 1) % 4294967296 = ((2 ^ i - 1 : Nat) : Int) := by rw [pow_cast]; omega
  rw [e, and_u32 b _ hb (by omega), Nat.and_two_pow_sub_one_eq_mod]
theorem bit_at (b i : Nat) (hb : b < 4294967296) (hi : i < 32) : Go.bits .and .u32 ((b : Int) / 2 ^ i) 1 = ((b / 2 ^ i % 2 : Nat) : Int) := by
  have e : (b : Int) / 2 ^ i = ((b / 2 ^ i : Nat) : Int) := by rw [pow_cast]; simp
  have h2 : b / 2 ^ i ≤ b := Nat.div_le_self _ _
  have := and_u32 (b / 2 ^ i) 1 (by omega) (by decide)
  rw [show ((1 : Nat) : Int) = 1 from rfl] at this
  rw [e, this, show (1 : Nat) = 2 ^ 1 - 1 from rfl, Nat.and_two_pow_sub_one_eq_mod]
theorem ones_o (x : Int) (b : Nat) (hx : x = (b : Int)) (hb : b < 4294967296) (w : World) :
    Calls Tryd.prog 126 #[.int .u32 x] w (Ret (fun v _ => v = .int .i64 (popc 32 b : Int)) w) := by
  subst hx; exact ones_c b hb w
set_option maxHeartbeats 1000000 in
theorem rank_c (f : Nat → Bool) (b i : Nat) (hf : b = bitsN f 32) (hi : i < 32) (s : Value) (w : World) (hs : ∃ A n c, s = .slice A n c) :
    Calls Tryd.prog 107 #[.agg #[.int .u32 (b : Int), s], .int .i64 (i : Int)] w (Ret (fun v _ => v = .int .i64 (cnt f i : Int)) w) := by
  obtain ⟨A, n, c, rfl⟩ := hs
  have hb : b < 4294967296 := by rw [hf]; exact bitsN_lt f 32
  have e1 := mask_low b i hb hi
  have e2 : popc 32 (b % 2 ^ i) = cnt f i := by rw [hf, bitsN_mod f (show i ≤ 32 by omega)]; exact popc_cnt f (by omega)
  have e3 : b % 2 ^ i < 4294967296 := Nat.lt_of_le_of_lt (Nat.mod_le _ _) hb
  have HC := Lib.hid (fun (x : Int) (hx : x = ((b % 2 ^ i : Nat) : Int)) V => ones_o x (b % 2 ^ i) hx e3 V)
  rw [e2] at HC
  have E1 := Lib.hid e1
  clear hf e1 e2 e3
  have hiI : (i : Int) < 32 := by omega
  go_enter Tryd.func107, Tryd.ntmps107
  go_wp2_with (go_at_call 126; ((with_reducible refine (HC.out _ E1.out _).mono ?_); rintro e w1 ⟨v, rfl, rfl, hb1⟩))
  go_returns
  exact ⟨_, rfl, rfl, below_trans ((Below.refl _ _).alloc (Nat.le_refl _) _) hb1⟩
set_option maxHeartbeats 1000000 in
theorem has_c (f : Nat → Bool) (b i : Nat) (hf : b = bitsN f 32) (hi : i < 32) (s : Value) (w : World) (hs : ∃ A n c, s = .slice A n c) :
    Calls Tryd.prog 106 #[.agg #[.int .u32 (b : Int), s], .int .i64 (i : Int)] w (Ret (fun v _ => v = .bool (f i)) w) := by
  obtain ⟨A, n, c, rfl⟩ := hs
  have hb : b < 4294967296 := by rw [hf]; exact bitsN_lt f 32
  have e : (Go.bits .and .u32 ((b : Int) / 2 ^ i) 1 == 1) = f i := by
    rw [bit_at b i hb hi, hf, bitsN_bit f hi]
    cases f i <;> rfl
  have E := Lib.hid e
  clear hf e
  have hiI : (i : Int) < 32 := by omega
  go_enter Tryd.func106, Tryd.ntmps106
  go_wp2_with fail
  go_returns
  exact ⟨_, rfl, congrArg Value.bool E.out, by go_grown⟩
set_option maxHeartbeats 1000000 in
theorem rlen_c (b : Int) (A : Option Addr) (n c : Nat) (w : World) :
    Calls Tryd.prog 128 #[.agg #[.int .u32 b, .slice A n c]] w (Ret (fun v _ => v = .int .i64 (n : Int)) w) := by
  go_enter Tryd.func128, Tryd.ntmps128
  go_wp2_with fail
  go_returns
  exact ⟨_, rfl, rfl, by go_grown⟩
end Go.Proofs.YtnegblckbomgdaaDoor.Ht
end
section
namespace Go.Proofs.YtnegblckbomgdaaDoor.Ht
open Go Go.RowKit Go.Proofs.YtnegblckbomgdaaDoor.Mem Go.Proofs.YtnegblckbomgdaaDoorW.PrintWords
attribute [local go_sem ↓] Go.wp_at_zero Go.wp_at_succ
abbrev ST : TypeId := 124
def Three (c : Nat → Option (List Value)) : Prop := ∀ i x, c i = some x → x.length = 3
def RowS (K : Nat → Prop) (w : World) (s : Value) (c : Nat → Option (List Value)) : Prop := SlK 3 K w s (cnt (has c) 32) (rowC c 0 32) ∧ Three c
theorem rowC_get {c : Nat → Option (List Value)} (h3 : Three c) {i t : Nat} (hi : i < 32) {x : List Value} (hx : c i = some x) (ht : t < 3) : (rowC c 0 32)[cnt (has c) i * 3 + t]? = x[t]? := by
  rw [rowC_split c hi, hx, Option.getD_some]
  have hl := rowC_length c 3 h3 i
  rw [List.getElem?_append_right (by omega), hl, Nat.add_sub_cancel_left, List.getElem?_append_left (by rw [h3 i x hx]; exact ht)]
section
variable {K K' : Nat → Prop} {w w' : World} {s : Value} {c : Nat → Option (List Value)}
theorem RowS.below (h : RowS K w s c) (hb : Below w.heap.size w w') : RowS K w' s c := ⟨h.1.below hb, h.2⟩
theorem RowS.at (h : RowS K w s c) {i : Nat} (hi : i < 32) {x0 x1 x2 : Value} (hx : c i = some [x0, x1, x2]) : ∃ g n cp, s = .slice (some ⟨g, 0, none⟩) n cp ∧ cnt (has c) i < n ∧ n ≤ 32 ∧
    w.cell? ⟨g, cnt (has c) i * 3, none⟩ = some x0 ∧ w.cell? ⟨g, cnt (has c) i * 3 + 1, none⟩ = some x1 ∧ w.cell? ⟨g, cnt (has c) i * 3 + 2, none⟩ = some x2 := by
  obtain ⟨A, cp, rfl⟩ := h.1.form
  have hlt : cnt (has c) i < cnt (has c) 32 := cnt_lt _ hi (by simp [has, hx])
  obtain ⟨g, rfl, -, hc⟩ := h.1.addr (by omega)
  refine ⟨g, _, cp, rfl, hlt, cnt_le _ _, ?_, ?_, ?_⟩
  · exact hc _ _ (by have := rowC_get h.2 hi hx (t := 0) (by decide); simpa using this)
  · exact hc _ _ (by have := rowC_get h.2 hi hx (t := 1) (by decide); simpa using this)
  · exact hc _ _ (by have := rowC_get h.2 hi hx (t := 2) (by decide); simpa using this)
end
set_option maxRecDepth 100000 in
set_option maxHeartbeats 4000000 in
theorem get_some (K : Nat → Prop) (c : Nat → Option (List Value)) (b i : Nat) (hb : b = bitsN (has c) 32) (hi : i < 32) (s : Value) (k : ByteArray) (x : Int) (q : Option Addr) (w : World) (h : RowS K w s c) (hx : c i = some [.string k, .int .i64 x, .pointer q]) :
    Calls Tryd.prog 77 #[.agg #[.int .u32 (b : Int), s], .int .i64 (i : Int)] w (Ret (fun v _ => v = .tuple #[.agg #[.string k, .int .i64 x, .pointer q], .bool true]) w) := by
  obtain ⟨g, n, cp, rfl, hlt, hn, k0, k1, k2⟩ := h.at hi hx
  obtain ⟨j, hj⟩ : ∃ j, j = cnt (has c) i := ⟨_, rfl⟩
  have HH := Lib.hid (fun V => has_c (has c) b i hb hi (.slice (some ⟨g, 0, none⟩) n cp) V ⟨_, _, _, rfl⟩)
  rw [show has c i = true by simp [has, hx]] at HH
  have HR := Lib.hid (fun V => rank_c (has c) b i hb hi (.slice (some ⟨g, 0, none⟩) n cp) V ⟨_, _, _, rfl⟩)
  rw [← hj] at HR k0 k1 k2 hlt
  clear hb hj hx h
  have hj0 : (0 : Int) ≤ (j : Int) := by omega
  have hjn : (j : Int) < (n : Int) := by omega
  have c0 := World.new_ne w ⟨g, j * 3, none⟩ k0
  have c1 := World.new_ne w ⟨g, j * 3 + 1, none⟩ k1
  have c2 := World.new_ne w ⟨g, j * 3 + 2, none⟩ k2
  go_enter Tryd.func77, Tryd.ntmps77
  go_wp2_with (go_at_call 106; ((with_reducible refine (HH.out _).mono ?_); rintro e w1 ⟨v, rfl, rfl, hb1⟩; have BA := (hb1.block w.heap.size (by simp; omega)).trans (blk_alloc (blk_new w _) _); have BR := (hb1.block (w.heap.size + 1) (by simp)).trans (heap_k1 w _ _); obtain ⟨⟨a0, a1⟩, -, -⟩ := box2 BA; have HBR := Lib.hid BR; have hg1 : g < w.heap.size := block_lt k0; have n1 : w.heap.size + 1 ≠ g := (by omega); have hw1 : Below w.heap.size w w1 := below_trans (((Below.refl _ _).alloc (Nat.le_refl _) _).alloc (by simp) _) hb1; have K0 := cell_below k0 hw1; have K1 := cell_below k1 hw1; have K2 := cell_below k2 hw1; clear hb1 BA BR))
  go_region_held3 (fun w' => w'.cell? ⟨w.heap.size, 0, none⟩ = some (.int .u32 (b : Int)) ∧ w'.cell? ⟨w.heap.size, 1, none⟩ = some (.slice (some ⟨g, 0, none⟩) n cp) ∧ w'.cell? ⟨g, j * 3, none⟩ = some (.string k) ∧ w'.cell? ⟨g, j * 3 + 1, none⟩ = some (.int .i64 x) ∧ w'.cell? ⟨g, j * 3 + 2, none⟩ = some (.pointer q))
    ((refine ⟨?_, ?_, ?_, ?_, ?_⟩ <;> first | (with_reducible assumption) | (with_reducible exact cell_below a0 (by assumption)) | (with_reducible exact cell_below a1 (by assumption)) | (with_reducible exact cell_below K0 (by assumption)) | (with_reducible exact cell_below K1 (by assumption)) | (with_reducible exact cell_below K2 (by assumption)) | (go_keep; done)))
    (first
      | (go_at_call 107; (with_reducible refine (HR.out _).mono ?_); rintro e w2 ⟨v, rfl, rfl, hb2⟩; have hb2' : Below w1.heap.size w1 w2 := below_trans (w1 := w1.drew) (Below.refl _ _).drew hb2; obtain ⟨⟨r0, r1, r2⟩, f0, f1, f2⟩ := box3 (blk_below HBR.out hb2'))
      | fail)
  go_wp2_with fail
  have hs2 : w.heap.size ≤ w.heap.size + 1 := Nat.le_succ _
  refine bodyPost_ret (results_ct rfl _ _ (w.heap.size + 1) ST #[.string k, .int .i64 x, .pointer q] (0, 0) _ _ rfl rfl (put3 (blk_below HBR.out hb2')) Tryd.underlying124 rfl (by kernel_rfl)) rfl ?_
  exact ⟨_, rfl, rfl, below_put3 (below_trans hw1 hb2') hs2 _ _ _⟩
set_option maxRecDepth 100000 in
set_option maxHeartbeats 4000000 in
theorem get_none (c : Nat → Option (List Value)) (b i : Nat) (hb : b = bitsN (has c) 32) (hi : i < 32) (s : Value) (hs : ∃ A n c, s = .slice A n c) (w : World) (hx : c i = none) :
    Calls Tryd.prog 77 #[.agg #[.int .u32 (b : Int), s], .int .i64 (i : Int)] w (Ret (fun v _ => v = .tuple #[.agg #[.string ⟨#[]⟩, .int .i64 0, .pointer none], .bool false]) w) := by
  obtain ⟨A, n, cp, rfl⟩ := hs
  have HH := Lib.hid (fun V => has_c (has c) b i hb hi (.slice A n cp) V ⟨_, _, _, rfl⟩)
  rw [show has c i = false by simp [has, hx]] at HH
  clear hb hx
  go_enter Tryd.func77, Tryd.ntmps77
  go_wp2_with (go_at_call 106; ((with_reducible refine (HH.out _).mono ?_); rintro e w1 ⟨v, rfl, rfl, hb1⟩; have BR := (hb1.block (w.heap.size + 1) (by simp)).trans (heap_k1 w _ _); obtain ⟨⟨r0, r1, r2⟩, f0, f1, f2⟩ := box3 BR; have HBR := Lib.hid BR; have hw1 : Below w.heap.size w w1 := below_trans (((Below.refl _ _).alloc (Nat.le_refl _) _).alloc (by simp) _) hb1; have hs1 := hb1.size; simp only [World.size_alloc] at hs1; have R := (fun o => box3 (blk_alloc BR o)); have q0 := (fun o => (R o).1.1); have q1 := (fun o => (R o).1.2.1); have q2 := (fun o => (R o).1.2.2); have g0 := (fun o => (R o).2.1); have g1 := (fun o => (R o).2.2.1); have g2 := (fun o => (R o).2.2.2); clear R hb1 BR))
  have hs2 : w.heap.size ≤ w.heap.size + 1 := Nat.le_succ _
  refine bodyPost_ret (results_ct rfl _ _ (w.heap.size + 1) ST #[.string ⟨#[]⟩, .int .i64 0, .pointer none] (0, 0) _ _ rfl rfl (put3 (blk_alloc HBR.out _)) Tryd.underlying124 rfl (by kernel_rfl)) rfl ?_
  exact ⟨_, rfl, rfl, below_put3 (hw1.alloc hw1.size _) hs2 _ _ _⟩
end Go.Proofs.YtnegblckbomgdaaDoor.Ht
end
section
namespace Go.Proofs.YtnegblckbomgdaaDoor.Ht
open Go Go.RowKit Go.Proofs.YtnegblckbomgdaaDoor.Mem Go.Proofs.YtnegblckbomgdaaDoorW.PrintWords
attribute [local go_sem ↓] Go.wp_at_zero Go.wp_at_succ
abbrev RWT : TypeId := 114
abbrev SLT : TypeId := 112
theorem row_cell {w : World} {g i : Nat} {cur : List Value} {t : TypeId} (h : w.heap[g]? = some (.cells cur.toArray t (0, 0))) (hi : i < cur.length) : ∃ u, w.cell? ⟨g, i, none⟩ = some u :=
  ⟨cur[i], by rw [blk_cell h]; simp [hi]⟩
theorem row_set {w : World} {g : Nat} {cur : List Value} {t : TypeId} (h : w.heap[g]? = some (.cells cur.toArray t (0, 0))) (i : Nat) (u : Value) : (w.setCell ⟨g, i, none⟩ u).heap[g]? = some (.cells (cur.set i u).toArray t (0, 0)) :=
  blk_put h i u (by simp)
theorem row_done (m j : Nat) (Z X1 X2 : List Value) (a b c : Value) (hZ : Z.length = m * 3) (h1 : X1.length = j * 3) (h2 : X2.length = (m - (j + 1)) * 3) (hj : j + 1 ≤ m) :
    splice ((((splice Z 0 X1).set (j * 3) a).set (j * 3 + 1) b).set (j * 3 + 2) c) ((j + 1) * 3) X2 = X1 ++ ([a, b, c] ++ X2) := by
  have e1 : splice Z 0 X1 = X1 ++ Z.drop (j * 3) := by simp [splice, h1]
  have hd : (Z.drop (j * 3)).length = (m - j) * 3 := by rw [List.length_drop, hZ, ← Nat.sub_mul]
  rw [e1]
  match hD : Z.drop (j * 3), hd with
  | [], hd => simp at hd; omega
  | [_], hd => simp at hd; omega
  | [_, _], hd => simp at hd; omega
  | u :: v :: t :: r, hd =>
    have hr : r.length = (m - (j + 1)) * 3 := by simp at hd; omega
    rw [List.set_append_right _ _ (by omega), List.set_append_right _ _ (by omega), List.set_append_right _ _ (by omega), h1]
    simp only [Nat.sub_self, show j * 3 + 1 - j * 3 = 1 by omega, show j * 3 + 2 - j * 3 = 2 by omega, List.set_cons_zero, List.set_cons_succ]
    unfold splice
    have e8 : (X1 ++ a :: b :: c :: r).drop ((j + 1) * 3 + X2.length) = [] := List.drop_eq_nil_of_le (by simp; omega)
    rw [e8, List.take_append, List.take_of_length_le (by omega), h1, show (j + 1) * 3 - j * 3 = 3 by omega]
    simp
theorem or_bit (f : Nat → Bool) (b i : Nat) (hb : b = bitsN f 32) (hi : i < 32) : Go.bits .or .u32 (b : Int) ((2 : Int) ^ i % 4294967296) = (bitsN (on f i) 32 : Int) := by
  have h1 := pow_32 hi
  have h0 : 0 < 2 ^ i := Nat.pow_pos (by decide)
  have e : (2 : Int) ^ i % 4294967296 = ((2 ^ i : Nat) : Int) := by rw [pow_cast]; omega
  have hlt : b < 4294967296 := by rw [hb]; exact bitsN_lt f 32
  rw [e, or_u32 b _ hlt (by omega), hb, bitsN_or f hi]
theorem rows_blk {K : Nat → Prop} {w : World} {g m : Nat} {c : Nat → Option (List Value)} {t : TypeId} (h3 : Three c) (hm : cnt (has c) 32 = m) (hg : w.heap[g]? = some (.cells (rowC c 0 32).toArray t (0, 0))) (h1 : ∀ v ∈ rowC c 0 32, v.oneCell' = true) (hK : K g) : RowS K w (.slice (some ⟨g, 0, none⟩) m m) c := by
  subst hm
  exact ⟨SlK.blk hg (fun _ _ h => h) (rowC_length c 3 h3 32) (Nat.le_refl _) (by have := cnt_le (has c) 32; unfold maxLen; omega) h1 hK, h3⟩
theorem three_put {c : Nat → Option (List Value)} (h : Three c) (i : Nat) (x : Option (List Value)) (hx : ∀ y, x = some y → y.length = 3) : Three (put c i x) := by
  intro j y hy
  unfold put at hy
  split at hy
  · exact hx y hy
  · exact h j y hy
theorem info_slot : (Tryd.prog.info? ST).map (fun i => (i.zero, i.size, i.bytes)) = some (some (.agg #[.string ⟨#[]⟩, .int .i64 0, .pointer none]), 3, 32) := by kernel_rfl
theorem size_slot : (Tryd.prog.info? ST).map (·.size) = some 3 := by kernel_rfl
def zs (n : Nat) : List Value := (madeCells #[.string ⟨#[]⟩, .int .i64 0, .pointer none] (n * 3)).toList
theorem zs_length (n : Nat) : (zs n).length = n * 3 := by simp [zs, size_madeCells]
theorem make_slots (n : Nat) (x : Int) (hx : x = (n : Int)) (hn : n ≤ 100) (W : World) : (Instr.makeSlice SLT (.int .i64 x) (.int .i64 x)).run Tryd.prog W = .ok (.slice (some ⟨W.heap.size, 0, none⟩) n n) (W.alloc (.cells (zs n).toArray ST)) := by
  subst hx
  obtain ⟨i0, hi, hz0, hz1, hz2⟩ := info_parts info_slot
  have := run_make (P := Tryd.prog) W SLT ST i0 _ Tryd.underlying112 hi hz0 .i64 .i64 (n : Int) (n : Int) (by omega) (by omega) (by rw [hz2]; omega) (by omega)
  rw [hz1, show Value.cells (.agg #[.string ⟨#[]⟩, .int .i64 0, .pointer none]) = #[.string ⟨#[]⟩, .int .i64 0, .pointer none] from rfl, Int.toNat_natCast] at this
  rw [this]
  simp [zs]
set_option maxRecDepth 100000 in
set_option maxHeartbeats 8000000 in
theorem set_same (K : Nat → Prop) (c : Nat → Option (List Value)) (b i : Nat) (hb : b = bitsN (has c) 32) (hi : i < 32) (s : Value) (k : ByteArray) (x : Int) (q : Option Addr) (w : World) (h : RowS K w s c) (hh : has c i = true) :
    Calls Tryd.prog 101 #[.agg #[.int .u32 (b : Int), s], .int .i64 (i : Int), .agg #[.string k, .int .i64 x, .pointer q]] w
      (Ret (fun v w' => ∃ s', v = .agg #[.int .u32 (bitsN (has (put c i (some [.string k, .int .i64 x, .pointer q]))) 32 : Int), s'] ∧ RowS (New K w) w' s' (put c i (some [.string k, .int .i64 x, .pointer q]))) w) := by
  obtain ⟨A, cp, rfl⟩ := h.1.form
  obtain ⟨j, hj⟩ : ∃ j, j = cnt (has c) i := ⟨_, rfl⟩
  obtain ⟨n, hn⟩ : ∃ n, n = cnt (has c) 32 := ⟨_, rfl⟩
  have hjn : j ≤ n := by rw [hj, hn]; exact cnt_mono _ (by omega)
  have hn32 : n ≤ 32 := by rw [hn]; exact cnt_le _ _
  have hcp := h.1.cap
  rw [← hn] at hcp
  have HH := Lib.hid (fun V => has_c (has c) b i hb hi (.slice A n cp) V ⟨_, _, _, rfl⟩)
  rw [hh] at HH
  have HR := Lib.hid (fun V => rank_c (has c) b i hb hi (.slice A n cp) V ⟨_, _, _, rfl⟩)
  rw [← hj] at HR
  have HMK := Lib.hid (fun W => make_slots (n) ((n : Int)) (by first | rfl | (push_cast; rfl)) (by omega) W)
  rw [← hn]
  have H := Lib.hid h
  have HJ := Lib.hid hj
  have HN := Lib.hid hn
  have HB := Lib.hid hb
  have HHI := Lib.hid hh
  have hmk := HMK.out
  clear hb hj hn h hh HMK
  have hjI : (j : Int) ≤ (n : Int) := by omega
  have hnI : (n : Int) ≤ 32 := by omega
  have hcI : (n : Int) ≤ (cp : Int) := by omega
  have hcI2 : (cp : Int) ≤ 9223372036854775807 := by have := hcp.2; unfold maxLen at this; omega
  have hiI : (i : Int) < 32 := by omega
  have hj0 : (0 : Int) ≤ (j : Int) := by omega
  go_enter Tryd.func101, Tryd.ntmps101
  go_wp2_with fail
  have BA : (((w.alloc _).alloc _).alloc _).heap[w.heap.size]? = _ := blk_alloc (blk_alloc (blk_new w (.cells #[.int .u32 (b : Int), .slice A n cp] RWT)) (.cells #[.string k, .int .i64 x, .pointer q] ST)) (.cells #[.int .u32 0, .slice none 0 0] RWT)
  obtain ⟨⟨a0, a1⟩, -, -⟩ := box2 BA
  have HBA := Lib.hid BA; clear BA
  go_region_held3 (fun w' => w'.cell? ⟨w.heap.size, 0, none⟩ = some (.int .u32 (b : Int)) ∧ w'.cell? ⟨w.heap.size, 1, none⟩ = some (.slice A n cp))
    ((refine ⟨?_, ?_⟩ <;> first | (with_reducible assumption) | (with_reducible exact cell_below a0 (by assumption)) | (with_reducible exact cell_below a1 (by assumption)) | (go_keep; done)))
    (first
      | (go_at_call 107; (with_reducible refine (HR.out _).mono ?_); rintro e w1 ⟨v, rfl, rfl, hb1⟩; have hb1' := below_trans (w1 := World.drew _) (Below.refl _ _).drew hb1)
      | fail)
  have HB1 := Lib.hid (show Below w.heap.size w w1 from below_trans (((Below.refl w.heap.size w).alloc (Nat.le_refl _) _).alloc (by simp) _ |>.alloc (by simp; omega) _) hb1')
  have BX : w1.heap[w.heap.size + 1]? = some (.cells #[.string k, .int .i64 x, .pointer q] ST (0, 0)) := blk_below (blk_alloc (heap_k1 w _ _) _) hb1'
  have BR : w1.heap[w.heap.size + 1 + 1]? = some (.cells #[.int .u32 0, .slice none 0 0] RWT (0, 0)) := blk_below (heap_k2 w _ _ _) hb1'
  replace HBA := Lib.hid (blk_below HBA.out hb1')
  have HBX := Lib.hid BX; have HBR := Lib.hid BR
  clear BX BR a0 a1 hb1 hb1'
  obtain ⟨⟨a0, a1⟩, -, -⟩ := box2 HBA.out
  obtain ⟨X1, hX1⟩ : ∃ X1, X1 = rowC c 0 i := ⟨_, rfl⟩
  obtain ⟨X2, hX2⟩ : ∃ X2, X2 = rowC c (i + 1) (32 - (i + 1)) := ⟨_, rfl⟩
  have hsp := rowC_split c hi
  have hx1 : X1.length = j * 3 := by rw [hX1, HJ.out]; exact rowC_length c 3 H.out.2 i
  have hone := H.out.1.one
  have hAd : 0 < n → ∃ g, A = some ⟨g, 0, none⟩ ∧ ∀ (t : Nat) (v : Value), (rowC c 0 32)[t]? = some v → w.cell? ⟨g, t, none⟩ = some v := fun hp => by
    obtain ⟨g, e, -, hc⟩ := H.out.1.addr (by rw [← HN.out]; exact hp)
    exact ⟨g, e, hc⟩
  have hlen := H.out.1.size
  rw [hsp, ← hX1, ← hX2] at hone hlen hAd
  obtain ⟨Y, hY⟩ : ∃ Y, Y = (c i).getD [] := ⟨_, rfl⟩
  rw [← hY] at hone hlen hAd
  have hjm : j + 1 ≤ n := by
    have := HHI.out
    rw [HJ.out, HN.out]; exact cnt_lt _ hi this
  have hYl : Y.length = 3 := by
    have h3 := H.out.2 i
    have := HHI.out
    unfold has at this
    rw [hY]
    cases hci : c i with
    | none => rw [hci] at this; cases this
    | some y => rw [hci] at this; simpa [hci] using h3 y hci
  have hx2 : X2.length = (n - (j + 1)) * 3 := by
    rw [List.length_append, List.length_append, ← HN.out] at hlen
    omega
  have HAd := Lib.hid hAd
  have HONE := Lib.hid hone
  have HX1 := Lib.hid hX1; have HX2 := Lib.hid hX2; have HY := Lib.hid hY
  have HL1 := Lib.hid hx1; have HL2 := Lib.hid hx2; have HYL := Lib.hid hYl
  clear hAd hone hX1 hX2 hY hlen hsp hx1 hx2 hYl
  have hjmI : (j : Int) + 1 ≤ (n : Int) := by omega
  go_wp2_with (first
    | (go_at_call 106; ((with_reducible refine (HH.out _).mono ?_); rintro e w2 ⟨v, rfl, rfl, hb2⟩; have HB2 := Lib.hid (below_trans HB1.out hb2); replace HBA := Lib.hid (blk_below HBA.out hb2); replace HBX := Lib.hid (blk_below HBX.out hb2); replace HBR := Lib.hid (blk_below HBR.out hb2); clear a0 a1; obtain ⟨⟨a0, a1⟩, -, -⟩ := box2 HBA.out; have a0' := (fun o => (box2 (blk_alloc HBA.out o)).1.1); have a1' := (fun o => (box2 (blk_alloc HBA.out o)).1.2); clear hb2))
    | ((with_reducible show wpList _ _ _ (⟨some 39, _, _, _, _, _⟩ :: _) _ _); refine wpList_copy_k rfl (.tmp 34) (.tmp 38) SLT SLT rfl ST 3 Tryd.underlying112 size_slot (by decide) _ _ _ _ _ _ rfl rfl w2.heap.size 0 (zs (n)) ST ?h1 X1 ?h2 ?h3 ?h4 ?h5 w2.heap.size w2 ?h6 (Nat.le_refl _) ?_; (case h1 => exact heap_alloc_new w2 _); (case h2 => rw [HL1.out]; congr 1; exact (Nat.min_eq_left (by omega)).symm); (case h3 => exact fun hp => (by obtain ⟨g, e, hc⟩ := HAd.out (by have := HL1.out; omega); exact ⟨rfl, _, e, fun t v hv => by rw [add_head]; exact cell_below (cell_below (hc t v (by rw [List.getElem?_append_left (List.getElem?_eq_some_iff.1 hv).1]; exact hv)) HB2.out) ((Below.refl _ _).alloc (Nat.le_refl _) _)⟩)); (case h4 => rw [zs_length, HL1.out]; omega); (case h5 => exact fun v hv => HONE.out v (List.mem_append_left _ hv)); (case h6 => exact (Below.refl _ _).alloc (Nat.le_refl _) _); intro w3 hg3 hb3; have HG3 := Lib.hid hg3.out; have HB3 := Lib.hid hb3; have hs3 := HBX.out; have B3 := blk_below HBA.out hb3; have R3 := Lib.hid (blk_below HBR.out hb3); obtain ⟨⟨x0, x1, x2⟩, -, -, -⟩ := box3 (blk_below HBX.out hb3); obtain ⟨⟨b0, b1⟩, -, -⟩ := box2 B3; have HBA3 := Lib.hid B3; have l3 : (splice (zs (n)) 0 X1).length = (n) * 3 := (by rw [length_splice _ _ _ (by rw [zs_length, HL1.out]; omega), zs_length]); obtain ⟨u0, hu0⟩ := row_cell (i := j * 3) HG3.out (by rw [l3]; omega); obtain ⟨u1, hu1⟩ := row_cell (i := j * 3 + 1) HG3.out (by rw [l3]; omega); obtain ⟨u2, hu2⟩ := row_cell (i := j * 3 + 2) HG3.out (by rw [l3]; omega); have z0 := blk_frozen HG3.out (j * 3); have z1 := blk_frozen HG3.out (j * 3 + 1); have z2 := blk_frozen HG3.out (j * 3 + 2); have HL3 := Lib.hid l3; clear hg3 hb3 hs3 l3 B3))
  have HG4 := row_set (row_set (row_set HG3.out (j * 3) (.string k)) (j * 3 + 1) (.int .i64 x)) (j * 3 + 2) (.pointer q)
  have hB4 : Below w2.heap.size w2 (((w3.setCell ⟨w2.heap.size, j * 3, none⟩ (.string k)).setCell ⟨w2.heap.size, j * 3 + 1, none⟩ (.int .i64 x)).setCell ⟨w2.heap.size, j * 3 + 2, none⟩ (.pointer q)) :=
    ((HB3.out.setCell (p := ⟨w2.heap.size, j * 3, none⟩) (Nat.le_refl w2.heap.size) _).setCell (p := ⟨w2.heap.size, j * 3 + 1, none⟩) (Nat.le_refl w2.heap.size) _).setCell (p := ⟨w2.heap.size, j * 3 + 2, none⟩) (Nat.le_refl w2.heap.size) _
  generalize (((w3.setCell ⟨w2.heap.size, j * 3, none⟩ (.string k)).setCell ⟨w2.heap.size, j * 3 + 1, none⟩ (.int .i64 x)).setCell ⟨w2.heap.size, j * 3 + 2, none⟩ (.pointer q)) = W4 at HG4 hB4 ⊢
  generalize hcur : (((splice (zs (n)) 0 X1).set (j * 3) (.string k)).set (j * 3 + 1) (.int .i64 x)).set (j * 3 + 2) (.pointer q) = cur4 at HG4
  have hl4 : cur4.length = (n) * 3 := by rw [← hcur]; simp [HL3.out]
  have hdone := row_done (n) j (zs (n)) X1 X2 (.string k) (.int .i64 x) (.pointer q) (zs_length _) HL1.out (by have := HL2.out; omega) hjm
  rw [hcur] at hdone
  have HL4 := Lib.hid hl4; have HD := Lib.hid hdone; have HGG := Lib.hid HG4; have HB4 := Lib.hid hB4
  have HA4 := Lib.hid (blk_below HBA.out hB4)
  have HR4 := Lib.hid (blk_below HBR.out hB4)
  clear hl4 hdone HG4 hB4 hcur a0 a1 a0' a1' x0 x1 x2 b0 b1 hu0 hu1 hu2 z0 z1 z2 HBA3 R3 HG3 HB3 HL3
  obtain ⟨⟨a0, a1⟩, -, -⟩ := box2 HA4.out
  obtain ⟨e1, he1, hs1⟩ := slice_from (P := Tryd.prog) 3 SLT ST Tryd.underlying112 size_slot (some ⟨w2.heap.size, 0, none⟩) (n) (n) (j + 1) ((j : Int) + 1) (by push_cast; rfl) hjm (Nat.le_refl _)
  obtain ⟨e2, he2, hs2⟩ := slice_from (P := Tryd.prog) 3 SLT ST Tryd.underlying112 size_slot A n cp (j + 1) ((j : Int) + 1) (by first | rfl | (push_cast; rfl)) (by omega) hcp.1
  have HE1 := Lib.hid he1; have HE2 := Lib.hid he2; clear he1 he2
  have hws : IntKind.i64.wrap ((j : Int) + 1) = (j : Int) + 1 := by rw [IntKind.wrap_i64]; omega
  obtain ⟨W5, hr5, hg5, hb5⟩ := run_copy_splice_k (P := Tryd.prog) 3 W4.drew SLT SLT 3 ST Tryd.underlying112 size_slot (by decide) e1 e2 (n - (j + 1)) (n - (j + 1)) (n - (j + 1)) (cp - (j + 1)) w2.heap.size ((j + 1) * 3) cur4 ST HGG.out X2
    (by rw [HL2.out]; congr 1; exact (Nat.min_eq_left (by omega)).symm)
    (fun hp => by
      have hl2 := HL2.out
      have hlt : j + 1 < n := by omega
      have he := HE1.out (by omega)
      obtain ⟨g, eA, hc⟩ := HAd.out (by omega)
      refine ⟨by rw [he]; simp [add_head], ⟨g, (j + 1) * 3, none⟩, by rw [HE2.out (by have := hcp.1; omega), eA]; simp [add_head], fun t v hv => ?_⟩
      rw [add_off]
      refine cell_below (cell_below (hc _ v ?_) HB2.out) HB4.out.drew
      rw [List.getElem?_append_right (by rw [HL1.out]; omega), List.getElem?_append_right (by rw [HL1.out, HYL.out]; omega), ← hv]
      congr 1
      rw [HL1.out, HYL.out]; omega)
    (by rw [HL4.out, HL2.out]; omega) (fun v hv => HONE.out v (by simp [hv])) w2.heap.size w2 HB4.out.drew (Nat.le_refl _)
  have HG5 := Lib.hid hg5; clear hg5
  clear a0 a1
  obtain ⟨⟨a0, a1⟩, -, -⟩ := box2 HBA.out
  have hB4 := HB4.out
  have hB4' := HB4.out.drew
  go_region_held3 (fun w' => w'.cell? ⟨w.heap.size, 0, none⟩ = some (.int .u32 (b : Int)) ∧ w'.cell? ⟨w.heap.size, 1, none⟩ = some (.slice A n cp))
    ((refine ⟨?_, ?_⟩ <;> first | (with_reducible assumption) | (with_reducible exact cell_below a0 (by assumption)) | (with_reducible exact cell_below a1 (by assumption)) | (go_keep; done)))
    (fail)
  have A5 := blk_below HBA.out hb5
  have R5 := blk_below HBR.out hb5
  obtain ⟨⟨b0, b1⟩, -, -⟩ := box2 A5
  obtain ⟨⟨r0, r1⟩, f0, f1⟩ := box2 R5
  have HR5 := Lib.hid R5
  clear a0 a1 hB4 hB4' R5 A5
  go_wp2_with fail
  have hor := or_bit (has c) b i HB.out hi
  rw [← has_put_some c i [.string k, .int .i64 x, .pointer q]] at hor
  have hm : cnt (has (put c i (some [.string k, .int .i64 x, .pointer q]))) 32 = n := by
    rw [has_put_some, cnt_on _ hi, HHI.out, ← HN.out]; rfl
  have hrow : rowC (put c i (some [.string k, .int .i64 x, .pointer q])) 0 32 = X1 ++ ([.string k, .int .i64 x, .pointer q] ++ X2) := by
    rw [rowC_put c _ hi, HX1.out, HX2.out]; rfl
  have hle : w.heap.size ≤ w.heap.size + 1 + 1 := by omega
  have hw2 := HB2.out.size
  have hlt2 := blk_lt HBR.out
  refine bodyPost_ret (results_c1 rfl _ _ (w.heap.size + 1 + 1) RWT #[.int .u32 _, .slice (some ⟨w2.heap.size, 0, none⟩) (n) (n)] (0, 0) _ rfl (put2 HR5.out) Tryd.underlying114 rfl (by kernel_rfl)) rfl ?_
  refine ⟨_, rfl, ⟨_, by rw [hor], ?_⟩, below_put2 (below_trans HB2.out hb5) hle _ _⟩
  refine rows_blk (t := ST) (three_put H.out.2 _ _ (fun y hy => by cases hy; rfl)) hm ?_ ?_ (New.fresh hw2)
  · rw [hrow, ← HD.out]
    exact blk_far (blk_far HG5.out (p := ⟨w.heap.size + 1 + 1, 0, none⟩) (Nat.ne_of_gt hlt2) _) (p := ⟨w.heap.size + 1 + 1, 1, none⟩) (Nat.ne_of_gt hlt2) _
  · rw [hrow]
    intro v hv
    rcases List.mem_append.1 hv with hv | hv
    · exact HONE.out v (List.mem_append_left _ hv)
    · rcases List.mem_append.1 hv with hv | hv
      · simp at hv; rcases hv with rfl | rfl | rfl <;> rfl
      · exact HONE.out v (List.mem_append_right _ (List.mem_append_right _ hv))
set_option maxRecDepth 100000 in
set_option maxHeartbeats 8000000 in
theorem set_more (K : Nat → Prop) (c : Nat → Option (List Value)) (b i : Nat) (hb : b = bitsN (has c) 32) (hi : i < 32) (s : Value) (k : ByteArray) (x : Int) (q : Option Addr) (w : World) (h : RowS K w s c) (hh : has c i = false) :
    Calls Tryd.prog 101 #[.agg #[.int .u32 (b : Int), s], .int .i64 (i : Int), .agg #[.string k, .int .i64 x, .pointer q]] w
      (Ret (fun v w' => ∃ s', v = .agg #[.int .u32 (bitsN (has (put c i (some [.string k, .int .i64 x, .pointer q]))) 32 : Int), s'] ∧ RowS (New K w) w' s' (put c i (some [.string k, .int .i64 x, .pointer q]))) w) := by
  obtain ⟨A, cp, rfl⟩ := h.1.form
  obtain ⟨j, hj⟩ : ∃ j, j = cnt (has c) i := ⟨_, rfl⟩
  obtain ⟨n, hn⟩ : ∃ n, n = cnt (has c) 32 := ⟨_, rfl⟩
  have hjn : j ≤ n := by rw [hj, hn]; exact cnt_mono _ (by omega)
  have hn32 : n ≤ 32 := by rw [hn]; exact cnt_le _ _
  have hcp := h.1.cap
  rw [← hn] at hcp
  have HH := Lib.hid (fun V => has_c (has c) b i hb hi (.slice A n cp) V ⟨_, _, _, rfl⟩)
  rw [hh] at HH
  have HR := Lib.hid (fun V => rank_c (has c) b i hb hi (.slice A n cp) V ⟨_, _, _, rfl⟩)
  rw [← hj] at HR
  have HMK := Lib.hid (fun W => make_slots (n + 1) ((n : Int) + 1) (by first | rfl | (push_cast; rfl)) (by omega) W)
  rw [← hn]
  have H := Lib.hid h
  have HJ := Lib.hid hj
  have HN := Lib.hid hn
  have HB := Lib.hid hb
  have HHI := Lib.hid hh
  have hmk := HMK.out
  clear hb hj hn h hh HMK
  have hjI : (j : Int) ≤ (n : Int) := by omega
  have hnI : (n : Int) ≤ 32 := by omega
  have hcI : (n : Int) ≤ (cp : Int) := by omega
  have hcI2 : (cp : Int) ≤ 9223372036854775807 := by have := hcp.2; unfold maxLen at this; omega
  have hiI : (i : Int) < 32 := by omega
  have hj0 : (0 : Int) ≤ (j : Int) := by omega
  go_enter Tryd.func101, Tryd.ntmps101
  go_wp2_with fail
  have BA : (((w.alloc _).alloc _).alloc _).heap[w.heap.size]? = _ := blk_alloc (blk_alloc (blk_new w (.cells #[.int .u32 (b : Int), .slice A n cp] RWT)) (.cells #[.string k, .int .i64 x, .pointer q] ST)) (.cells #[.int .u32 0, .slice none 0 0] RWT)
  obtain ⟨⟨a0, a1⟩, -, -⟩ := box2 BA
  have HBA := Lib.hid BA; clear BA
  go_region_held3 (fun w' => w'.cell? ⟨w.heap.size, 0, none⟩ = some (.int .u32 (b : Int)) ∧ w'.cell? ⟨w.heap.size, 1, none⟩ = some (.slice A n cp))
    ((refine ⟨?_, ?_⟩ <;> first | (with_reducible assumption) | (with_reducible exact cell_below a0 (by assumption)) | (with_reducible exact cell_below a1 (by assumption)) | (go_keep; done)))
    (first
      | (go_at_call 107; (with_reducible refine (HR.out _).mono ?_); rintro e w1 ⟨v, rfl, rfl, hb1⟩; have hb1' := below_trans (w1 := World.drew _) (Below.refl _ _).drew hb1)
      | fail)
  have HB1 := Lib.hid (show Below w.heap.size w w1 from below_trans (((Below.refl w.heap.size w).alloc (Nat.le_refl _) _).alloc (by simp) _ |>.alloc (by simp; omega) _) hb1')
  have BX : w1.heap[w.heap.size + 1]? = some (.cells #[.string k, .int .i64 x, .pointer q] ST (0, 0)) := blk_below (blk_alloc (heap_k1 w _ _) _) hb1'
  have BR : w1.heap[w.heap.size + 1 + 1]? = some (.cells #[.int .u32 0, .slice none 0 0] RWT (0, 0)) := blk_below (heap_k2 w _ _ _) hb1'
  replace HBA := Lib.hid (blk_below HBA.out hb1')
  have HBX := Lib.hid BX; have HBR := Lib.hid BR
  clear BX BR a0 a1 hb1 hb1'
  obtain ⟨⟨a0, a1⟩, -, -⟩ := box2 HBA.out
  obtain ⟨X1, hX1⟩ : ∃ X1, X1 = rowC c 0 i := ⟨_, rfl⟩
  obtain ⟨X2, hX2⟩ : ∃ X2, X2 = rowC c (i + 1) (32 - (i + 1)) := ⟨_, rfl⟩
  have hsp := rowC_split c hi
  have hx1 : X1.length = j * 3 := by rw [hX1, HJ.out]; exact rowC_length c 3 H.out.2 i
  have hone := H.out.1.one
  have hAd : 0 < n → ∃ g, A = some ⟨g, 0, none⟩ ∧ ∀ (t : Nat) (v : Value), (rowC c 0 32)[t]? = some v → w.cell? ⟨g, t, none⟩ = some v := fun hp => by
    obtain ⟨g, e, -, hc⟩ := H.out.1.addr (by rw [← HN.out]; exact hp)
    exact ⟨g, e, hc⟩
  have hlen := H.out.1.size
  rw [hsp, ← hX1, ← hX2] at hone hlen hAd
  obtain ⟨Y, hY⟩ : ∃ Y, Y = (c i).getD [] := ⟨_, rfl⟩
  rw [← hY] at hone hlen hAd
  have hjm : j + 1 ≤ n + 1 := by
    have := HHI.out
    omega
  have hYl : Y.length = 0 := by
    have h3 := H.out.2 i
    have := HHI.out
    unfold has at this
    rw [hY]
    cases hci : c i with
    | none => rw [hci] at this; rfl
    | some y => rw [hci] at this; cases this
  have hx2 : X2.length = (n - (j)) * 3 := by
    rw [List.length_append, List.length_append, ← HN.out] at hlen
    omega
  have HAd := Lib.hid hAd
  have HONE := Lib.hid hone
  have HX1 := Lib.hid hX1; have HX2 := Lib.hid hX2; have HY := Lib.hid hY
  have HL1 := Lib.hid hx1; have HL2 := Lib.hid hx2; have HYL := Lib.hid hYl
  clear hAd hone hX1 hX2 hY hlen hsp hx1 hx2 hYl
  have hjmI : (j : Int) + 1 ≤ (n : Int) + 1 := by omega
  go_wp2_with (first
    | (go_at_call 106; ((with_reducible refine (HH.out _).mono ?_); rintro e w2 ⟨v, rfl, rfl, hb2⟩; have HB2 := Lib.hid (below_trans HB1.out hb2); replace HBA := Lib.hid (blk_below HBA.out hb2); replace HBX := Lib.hid (blk_below HBX.out hb2); replace HBR := Lib.hid (blk_below HBR.out hb2); clear a0 a1; obtain ⟨⟨a0, a1⟩, -, -⟩ := box2 HBA.out; have a0' := (fun o => (box2 (blk_alloc HBA.out o)).1.1); have a1' := (fun o => (box2 (blk_alloc HBA.out o)).1.2); clear hb2))
    | ((with_reducible show wpList _ _ _ (⟨some 39, _, _, _, _, _⟩ :: _) _ _); refine wpList_copy_k rfl (.tmp 34) (.tmp 38) SLT SLT rfl ST 3 Tryd.underlying112 size_slot (by decide) _ _ _ _ _ _ rfl rfl w2.heap.size 0 (zs (n + 1)) ST ?h1 X1 ?h2 ?h3 ?h4 ?h5 w2.heap.size w2 ?h6 (Nat.le_refl _) ?_; (case h1 => exact heap_alloc_new w2 _); (case h2 => rw [HL1.out]; congr 1; exact (Nat.min_eq_left (by omega)).symm); (case h3 => exact fun hp => (by obtain ⟨g, e, hc⟩ := HAd.out (by have := HL1.out; omega); exact ⟨rfl, _, e, fun t v hv => by rw [add_head]; exact cell_below (cell_below (hc t v (by rw [List.getElem?_append_left (List.getElem?_eq_some_iff.1 hv).1]; exact hv)) HB2.out) ((Below.refl _ _).alloc (Nat.le_refl _) _)⟩)); (case h4 => rw [zs_length, HL1.out]; omega); (case h5 => exact fun v hv => HONE.out v (List.mem_append_left _ hv)); (case h6 => exact (Below.refl _ _).alloc (Nat.le_refl _) _); intro w3 hg3 hb3; have HG3 := Lib.hid hg3.out; have HB3 := Lib.hid hb3; have hs3 := HBX.out; have B3 := blk_below HBA.out hb3; have R3 := Lib.hid (blk_below HBR.out hb3); obtain ⟨⟨x0, x1, x2⟩, -, -, -⟩ := box3 (blk_below HBX.out hb3); obtain ⟨⟨b0, b1⟩, -, -⟩ := box2 B3; have HBA3 := Lib.hid B3; have l3 : (splice (zs (n + 1)) 0 X1).length = (n + 1) * 3 := (by rw [length_splice _ _ _ (by rw [zs_length, HL1.out]; omega), zs_length]); obtain ⟨u0, hu0⟩ := row_cell (i := j * 3) HG3.out (by rw [l3]; omega); obtain ⟨u1, hu1⟩ := row_cell (i := j * 3 + 1) HG3.out (by rw [l3]; omega); obtain ⟨u2, hu2⟩ := row_cell (i := j * 3 + 2) HG3.out (by rw [l3]; omega); have z0 := blk_frozen HG3.out (j * 3); have z1 := blk_frozen HG3.out (j * 3 + 1); have z2 := blk_frozen HG3.out (j * 3 + 2); have HL3 := Lib.hid l3; clear hg3 hb3 hs3 l3 B3))
  have HG4 := row_set (row_set (row_set HG3.out (j * 3) (.string k)) (j * 3 + 1) (.int .i64 x)) (j * 3 + 2) (.pointer q)
  have hB4 : Below w2.heap.size w2 (((w3.setCell ⟨w2.heap.size, j * 3, none⟩ (.string k)).setCell ⟨w2.heap.size, j * 3 + 1, none⟩ (.int .i64 x)).setCell ⟨w2.heap.size, j * 3 + 2, none⟩ (.pointer q)) :=
    ((HB3.out.setCell (p := ⟨w2.heap.size, j * 3, none⟩) (Nat.le_refl w2.heap.size) _).setCell (p := ⟨w2.heap.size, j * 3 + 1, none⟩) (Nat.le_refl w2.heap.size) _).setCell (p := ⟨w2.heap.size, j * 3 + 2, none⟩) (Nat.le_refl w2.heap.size) _
  generalize (((w3.setCell ⟨w2.heap.size, j * 3, none⟩ (.string k)).setCell ⟨w2.heap.size, j * 3 + 1, none⟩ (.int .i64 x)).setCell ⟨w2.heap.size, j * 3 + 2, none⟩ (.pointer q)) = W4 at HG4 hB4 ⊢
  generalize hcur : (((splice (zs (n + 1)) 0 X1).set (j * 3) (.string k)).set (j * 3 + 1) (.int .i64 x)).set (j * 3 + 2) (.pointer q) = cur4 at HG4
  have hl4 : cur4.length = (n + 1) * 3 := by rw [← hcur]; simp [HL3.out]
  have hdone := row_done (n + 1) j (zs (n + 1)) X1 X2 (.string k) (.int .i64 x) (.pointer q) (zs_length _) HL1.out (by have := HL2.out; omega) hjm
  rw [hcur] at hdone
  have HL4 := Lib.hid hl4; have HD := Lib.hid hdone; have HGG := Lib.hid HG4; have HB4 := Lib.hid hB4
  have HA4 := Lib.hid (blk_below HBA.out hB4)
  have HR4 := Lib.hid (blk_below HBR.out hB4)
  clear hl4 hdone HG4 hB4 hcur a0 a1 a0' a1' x0 x1 x2 b0 b1 hu0 hu1 hu2 z0 z1 z2 HBA3 R3 HG3 HB3 HL3
  obtain ⟨⟨a0, a1⟩, -, -⟩ := box2 HA4.out
  obtain ⟨e1, he1, hs1⟩ := slice_from (P := Tryd.prog) 3 SLT ST Tryd.underlying112 size_slot (some ⟨w2.heap.size, 0, none⟩) (n + 1) (n + 1) (j + 1) ((j : Int) + 1) (by push_cast; rfl) hjm (Nat.le_refl _)
  obtain ⟨e2, he2, hs2⟩ := slice_from (P := Tryd.prog) 3 SLT ST Tryd.underlying112 size_slot A n cp (j) ((j : Int)) (by first | rfl | (push_cast; rfl)) (by omega) hcp.1
  have HE1 := Lib.hid he1; have HE2 := Lib.hid he2; clear he1 he2
  have hws : IntKind.i64.wrap ((j : Int) + 1) = (j : Int) + 1 := by rw [IntKind.wrap_i64]; omega
  obtain ⟨W5, hr5, hg5, hb5⟩ := run_copy_splice_k (P := Tryd.prog) 3 W4.drew SLT SLT 3 ST Tryd.underlying112 size_slot (by decide) e1 e2 (n - j) (n - j) (n - (j)) (cp - (j)) w2.heap.size ((j + 1) * 3) cur4 ST HGG.out X2
    (by rw [HL2.out]; congr 1; exact (Nat.min_eq_left (by omega)).symm)
    (fun hp => by
      have hl2 := HL2.out
      have hlt : j < n := by omega
      have he := HE1.out (by omega)
      obtain ⟨g, eA, hc⟩ := HAd.out (by omega)
      refine ⟨by rw [he]; simp [add_head], ⟨g, (j) * 3, none⟩, by rw [HE2.out (by have := hcp.1; omega), eA]; simp [add_head], fun t v hv => ?_⟩
      rw [add_off]
      refine cell_below (cell_below (hc _ v ?_) HB2.out) HB4.out.drew
      rw [List.getElem?_append_right (by rw [HL1.out]; omega), List.getElem?_append_right (by rw [HL1.out, HYL.out]; omega), ← hv]
      congr 1
      rw [HL1.out, HYL.out]; omega)
    (by rw [HL4.out, HL2.out]; omega) (fun v hv => HONE.out v (by simp [hv])) w2.heap.size w2 HB4.out.drew (Nat.le_refl _)
  have HG5 := Lib.hid hg5; clear hg5
  clear a0 a1
  obtain ⟨⟨a0, a1⟩, -, -⟩ := box2 HBA.out
  have hB4 := HB4.out
  have hB4' := HB4.out.drew
  go_region_held3 (fun w' => w'.cell? ⟨w.heap.size, 0, none⟩ = some (.int .u32 (b : Int)) ∧ w'.cell? ⟨w.heap.size, 1, none⟩ = some (.slice A n cp))
    ((refine ⟨?_, ?_⟩ <;> first | (with_reducible assumption) | (with_reducible exact cell_below a0 (by assumption)) | (with_reducible exact cell_below a1 (by assumption)) | (go_keep; done)))
    (fail)
  have A5 := blk_below HBA.out hb5
  have R5 := blk_below HBR.out hb5
  obtain ⟨⟨b0, b1⟩, -, -⟩ := box2 A5
  obtain ⟨⟨r0, r1⟩, f0, f1⟩ := box2 R5
  have HR5 := Lib.hid R5
  clear a0 a1 hB4 hB4' R5 A5
  go_wp2_with fail
  have hor := or_bit (has c) b i HB.out hi
  rw [← has_put_some c i [.string k, .int .i64 x, .pointer q]] at hor
  have hm : cnt (has (put c i (some [.string k, .int .i64 x, .pointer q]))) 32 = n + 1 := by
    rw [has_put_some, cnt_on _ hi, HHI.out, ← HN.out]; rfl
  have hrow : rowC (put c i (some [.string k, .int .i64 x, .pointer q])) 0 32 = X1 ++ ([.string k, .int .i64 x, .pointer q] ++ X2) := by
    rw [rowC_put c _ hi, HX1.out, HX2.out]; rfl
  have hle : w.heap.size ≤ w.heap.size + 1 + 1 := by omega
  have hw2 := HB2.out.size
  have hlt2 := blk_lt HBR.out
  refine bodyPost_ret (results_c1 rfl _ _ (w.heap.size + 1 + 1) RWT #[.int .u32 _, .slice (some ⟨w2.heap.size, 0, none⟩) (n + 1) (n + 1)] (0, 0) _ rfl (put2 HR5.out) Tryd.underlying114 rfl (by kernel_rfl)) rfl ?_
  refine ⟨_, rfl, ⟨_, by rw [hor], ?_⟩, below_put2 (below_trans HB2.out hb5) hle _ _⟩
  refine rows_blk (t := ST) (three_put H.out.2 _ _ (fun y hy => by cases hy; rfl)) hm ?_ ?_ (New.fresh hw2)
  · rw [hrow, ← HD.out]
    exact blk_far (blk_far HG5.out (p := ⟨w.heap.size + 1 + 1, 0, none⟩) (Nat.ne_of_gt hlt2) _) (p := ⟨w.heap.size + 1 + 1, 1, none⟩) (Nat.ne_of_gt hlt2) _
  · rw [hrow]
    intro v hv
    rcases List.mem_append.1 hv with hv | hv
    · exact HONE.out v (List.mem_append_left _ hv)
    · rcases List.mem_append.1 hv with hv | hv
      · simp at hv; rcases hv with rfl | rfl | rfl <;> rfl
      · exact HONE.out v (List.mem_append_right _ (List.mem_append_right _ hv))
end Go.Proofs.YtnegblckbomgdaaDoor.Ht
end
section
namespace Go.Proofs.YtnegblckbomgdaaDoor.Ht
open Go Go.RowKit Go.Proofs.YtnegblckbomgdaaDoor.Mem Go.Proofs.YtnegblckbomgdaaDoorW.PrintWords
attribute [local go_sem ↓] Go.wp_at_zero Go.wp_at_succ
theorem clr_bit (f : Nat → Bool) (b i : Nat) (hb : b = bitsN f 32) (hi : i < 32) : Go.bits .andNot .u32 (b : Int) ((2 : Int) ^ i % 4294967296) = (bitsN (off f i) 32 : Int) := by
  have h1 := pow_32 hi
  have h0 : 0 < 2 ^ i := Nat.pow_pos (by decide)
  have e : (2 : Int) ^ i % 4294967296 = ((2 ^ i : Nat) : Int) := by rw [pow_cast]; omega
  have hlt : b < 4294967296 := by rw [hb]; exact bitsN_lt f 32
  have hlt2 : bitsN (off f i) 32 < 4294967296 := bitsN_lt _ 32
  rw [e]
  have h32 : IntKind.u32.bits = 32 := rfl
  have key : (BitVec.ofInt 32 (b : Int) &&& ~~~ BitVec.ofInt 32 ((2 ^ i : Nat) : Int)).toNat = bitsN (off f i) 32 := by
    apply Nat.eq_of_testBit_eq
    intro j
    rw [bitsN_testBit, ← BitVec.getLsbD, BitVec.getLsbD_and, BitVec.getLsbD_not, BitVec.ofInt_natCast, BitVec.ofInt_natCast, BitVec.getLsbD_ofNat, BitVec.getLsbD_ofNat, Nat.testBit_two_pow, hb, bitsN_testBit]
    unfold off
    by_cases hj : j < 32
    · by_cases h : j = i
      · subst h; simp [hj]
      · have h' : ¬ i = j := fun e => h e.symm
        simp [hj, h, h']
    · simp [hj]
  show IntKind.u32.wrap (((BitVec.ofInt 32 (b : Int) &&& ~~~ BitVec.ofInt 32 ((2 ^ i : Nat) : Int)).toNat : Nat) : Int) = _
  rw [key, IntKind.wrap_u32]
  omega
theorem row_less (m j : Nat) (Z X1 X2 : List Value) (hZ : Z.length = m * 3) (h1 : X1.length = j * 3) (h2 : X2.length = (m - j) * 3) (hj : j ≤ m) : splice (splice Z 0 X1) (j * 3) X2 = X1 ++ X2 := by
  have e1 : splice Z 0 X1 = X1 ++ Z.drop (j * 3) := by simp [splice, h1]
  rw [e1]
  unfold splice
  have e8 : (X1 ++ Z.drop (j * 3)).drop (j * 3 + X2.length) = [] := List.drop_eq_nil_of_le (by simp [hZ]; omega)
  rw [e8, List.take_append, List.take_of_length_le (by omega), h1, Nat.sub_self]
  simp
set_option maxRecDepth 100000 in
set_option maxHeartbeats 8000000 in
theorem cut_c (K : Nat → Prop) (c : Nat → Option (List Value)) (b i : Nat) (hb : b = bitsN (has c) 32) (hi : i < 32) (s : Value) (w : World) (h : RowS K w s c) (hh : has c i = true) :
    Calls Tryd.prog 111 #[.agg #[.int .u32 (b : Int), s], .int .i64 (i : Int)] w
      (Ret (fun v w' => ∃ s', v = .agg #[.int .u32 (bitsN (has (put c i none)) 32 : Int), s'] ∧ RowS (New K w) w' s' (put c i none)) w) := by
  obtain ⟨A, cp, rfl⟩ := h.1.form
  obtain ⟨j, hj⟩ : ∃ j, j = cnt (has c) i := ⟨_, rfl⟩
  obtain ⟨m, hn⟩ : ∃ m, m + 1 = cnt (has c) 32 := ⟨cnt (has c) 32 - 1, by have := cnt_lt _ hi hh; omega⟩
  have hjm : j ≤ m := by have := cnt_lt _ hi hh; omega
  have hn32 : m + 1 ≤ 32 := by rw [hn]; exact cnt_le _ _
  have hcp := h.1.cap
  rw [← hn] at hcp
  have HH := Lib.hid (fun V => has_c (has c) b i hb hi (.slice A (m + 1) cp) V ⟨_, _, _, rfl⟩)
  rw [hh] at HH
  have HR := Lib.hid (fun V => rank_c (has c) b i hb hi (.slice A (m + 1) cp) V ⟨_, _, _, rfl⟩)
  rw [← hj] at HR
  have HMK := Lib.hid (fun W => make_slots m (m : Int) rfl (by omega) W)
  rw [← hn]
  have H := Lib.hid h
  have HJ := Lib.hid hj
  have HN := Lib.hid hn
  have HB := Lib.hid hb
  have HHI := Lib.hid hh
  have hmk := HMK.out
  have hsp := rowC_split c hi
  obtain ⟨X1, hX1⟩ : ∃ X1, X1 = rowC c 0 i := ⟨_, rfl⟩
  obtain ⟨X2, hX2⟩ : ∃ X2, X2 = rowC c (i + 1) (32 - (i + 1)) := ⟨_, rfl⟩
  obtain ⟨Y, hY⟩ : ∃ Y, Y = (c i).getD [] := ⟨_, rfl⟩
  have hx1 : X1.length = j * 3 := by rw [hX1, hj]; exact rowC_length c 3 h.2 i
  have hone := h.1.one
  have hAd : 0 < m + 1 → ∃ g, A = some ⟨g, 0, none⟩ ∧ ∀ (t : Nat) (v : Value), (rowC c 0 32)[t]? = some v → w.cell? ⟨g, t, none⟩ = some v := fun hp => by
    obtain ⟨g, e, -, hc⟩ := H.out.1.addr (by rw [← HN.out]; exact hp)
    exact ⟨g, e, hc⟩
  have hlen := h.1.size
  rw [hsp, ← hX1, ← hX2, ← hY] at hone hlen hAd
  have hYl : Y.length = 3 := by
    have h3 := H.out.2 i
    have := HHI.out
    unfold has at this
    rw [hY]
    cases hci : c i with
    | none => rw [hci] at this; cases this
    | some y => rw [hci] at this; simpa [hci] using h3 y hci
  have hx2 : X2.length = (m - j) * 3 := by
    rw [List.length_append, List.length_append, ← HN.out] at hlen
    omega
  have HAd := Lib.hid hAd
  have HONE := Lib.hid hone
  have HX1 := Lib.hid hX1; have HX2 := Lib.hid hX2
  have HL1 := Lib.hid hx1; have HL2 := Lib.hid hx2; have HYL := Lib.hid hYl
  clear hAd hone hX1 hX2 hY hlen hsp hx1 hx2 hYl hb hj hn h hh HMK
  have hjI : (j : Int) ≤ (m : Int) := by omega
  have hnI : (m : Int) + 1 ≤ 32 := by omega
  have hcI : (m : Int) + 1 ≤ (cp : Int) := by omega
  have hcI2 : (cp : Int) ≤ 9223372036854775807 := by have := hcp.2; unfold maxLen at this; omega
  have hiI : (i : Int) < 32 := by omega
  have hj0 : (0 : Int) ≤ (j : Int) := by omega
  go_enter Tryd.func111, Tryd.ntmps111
  have BA : ((w.alloc _).alloc _).heap[w.heap.size]? = _ := blk_alloc (blk_new w (.cells #[.int .u32 (b : Int), .slice A (m + 1) cp] RWT)) (.cells #[.int .u32 0, .slice none 0 0] RWT)
  have BR : ((w.alloc _).alloc _).heap[w.heap.size + 1]? = _ := heap_k1 w (.cells #[.int .u32 (b : Int), .slice A (m + 1) cp] RWT) (.cells #[.int .u32 0, .slice none 0 0] RWT)
  have HBA := Lib.hid BA; have HBR := Lib.hid BR; clear BA BR
  have HB1 := Lib.hid (show Below w.heap.size w _ from ((Below.refl w.heap.size w).alloc (Nat.le_refl _) (.cells #[.int .u32 (b : Int), .slice A (m + 1) cp] RWT)).alloc (by simp) (.cells #[.int .u32 0, .slice none 0 0] RWT))
  go_wp2_with (first
    | (go_at_call 106; ((with_reducible refine (HH.out _).mono ?_); rintro e w1 ⟨v, rfl, rfl, hb1⟩; replace HB1 := Lib.hid (below_trans HB1.out hb1); replace HBA := Lib.hid (blk_below HBA.out hb1); replace HBR := Lib.hid (blk_below HBR.out hb1); obtain ⟨⟨a0, a1⟩, -, -⟩ := box2 HBA.out; clear hb1))
    | (go_at_call 107; ((with_reducible refine (HR.out _).mono ?_); rintro e w2 ⟨v, rfl, rfl, hb2⟩; replace HB1 := Lib.hid (below_trans HB1.out hb2); replace HBA := Lib.hid (blk_below HBA.out hb2); replace HBR := Lib.hid (blk_below HBR.out hb2); clear a0 a1; obtain ⟨⟨a0, a1⟩, -, -⟩ := box2 HBA.out; have a0' := (fun o => (box2 (blk_alloc HBA.out o)).1.1); have a1' := (fun o => (box2 (blk_alloc HBA.out o)).1.2); clear hb2))
    | ((with_reducible show wpList _ _ _ (⟨some 25, _, _, _, _, _⟩ :: _) _ _); refine wpList_copy_k rfl (.tmp 20) (.tmp 24) SLT SLT rfl ST 3 Tryd.underlying112 size_slot (by decide) _ _ _ _ _ _ rfl rfl w2.heap.size 0 (zs m) ST ?h1 X1 ?h2 ?h3 ?h4 ?h5 w2.heap.size w2 ?h6 (Nat.le_refl _) ?_; (case h1 => exact heap_alloc_new w2 _); (case h2 => rw [HL1.out]; congr 1; exact (Nat.min_eq_left (by omega)).symm); (case h3 => exact fun hp => (by obtain ⟨g, e, hc⟩ := HAd.out (by omega); exact ⟨rfl, _, e, fun t v hv => by rw [add_head]; exact cell_below (cell_below (hc t v (by rw [List.getElem?_append_left (List.getElem?_eq_some_iff.1 hv).1]; exact hv)) HB1.out) ((Below.refl _ _).alloc (Nat.le_refl _) _)⟩)); (case h4 => rw [zs_length, HL1.out]; omega); (case h5 => exact fun v hv => HONE.out v (List.mem_append_left _ hv)); (case h6 => exact (Below.refl _ _).alloc (Nat.le_refl _) _); intro w3 hg3 hb3; have HG3 := Lib.hid hg3.out; have HB3 := Lib.hid hb3; have l3 : (splice (zs m) 0 X1).length = m * 3 := (by rw [length_splice _ _ _ (by rw [zs_length, HL1.out]; omega), zs_length]); have HL3 := Lib.hid l3; clear hg3 hb3 l3))
  obtain ⟨e1, he1, hs1⟩ := slice_from (P := Tryd.prog) 3 SLT ST Tryd.underlying112 size_slot (some ⟨w2.heap.size, 0, none⟩) m m j (j : Int) rfl hjm (Nat.le_refl _)
  obtain ⟨e2, he2, hs2⟩ := slice_from (P := Tryd.prog) 3 SLT ST Tryd.underlying112 size_slot A (m + 1) cp (j + 1) ((j : Int) + 1) (by push_cast; rfl) (by omega) hcp.1
  rw [show m + 1 - (j + 1) = m - j by omega] at hs2
  have HE1 := Lib.hid he1; have HE2 := Lib.hid he2; clear he1 he2
  have hws : IntKind.i64.wrap ((j : Int) + 1) = (j : Int) + 1 := by rw [IntKind.wrap_i64]; omega
  obtain ⟨W5, hr5, hg5, hb5⟩ := run_copy_splice_k (P := Tryd.prog) 3 w3.drew SLT SLT 3 ST Tryd.underlying112 size_slot (by decide) e1 e2 (m - j) (m - j) (m - j) (cp - (j + 1)) w2.heap.size (j * 3) (splice (zs m) 0 X1) ST HG3.out X2
    (by rw [HL2.out]; congr 1; exact (Nat.min_eq_left (by omega)).symm)
    (fun hp => by
      have hl2 := HL2.out
      have hlt : j < m := by omega
      have he := HE1.out (by omega)
      obtain ⟨g, eA, hc⟩ := HAd.out (by omega)
      refine ⟨by rw [he]; simp [add_head], ⟨g, (j + 1) * 3, none⟩, by rw [HE2.out (by have := hcp.1; omega), eA]; simp [add_head], fun t v hv => ?_⟩
      rw [add_off]
      refine cell_below (cell_below (hc _ v ?_) HB1.out) HB3.out.drew
      rw [List.getElem?_append_right (by rw [HL1.out]; omega), List.getElem?_append_right (by rw [HL1.out, HYL.out]; omega), ← hv]
      congr 1
      rw [HL1.out, HYL.out]; omega)
    (by rw [HL3.out, HL2.out, ← Nat.add_mul]; exact Nat.mul_le_mul_right _ (by omega)) (fun v hv => HONE.out v (by simp [hv])) w2.heap.size w2 HB3.out.drew (Nat.le_refl _)
  have HG5 := Lib.hid hg5; clear hg5
  have hB4 := HB3.out
  have hB4' := HB3.out.drew
  go_region_held3 (fun w' => w'.cell? ⟨w.heap.size, 0, none⟩ = some (.int .u32 (b : Int)) ∧ w'.cell? ⟨w.heap.size, 1, none⟩ = some (.slice A (m + 1) cp))
    ((refine ⟨?_, ?_⟩ <;> first | (with_reducible assumption) | (with_reducible exact cell_below a0 (by assumption)) | (with_reducible exact cell_below a1 (by assumption)) | (go_keep; done)))
    (fail)
  have A5 := blk_below HBA.out hb5
  have R5 := blk_below HBR.out hb5
  clear a0 a1 a0' a1' hB4 hB4'
  obtain ⟨⟨b0, b1⟩, -, -⟩ := box2 A5
  obtain ⟨⟨r0, r1⟩, f0, f1⟩ := box2 R5
  have HR5 := Lib.hid R5
  clear R5 A5
  go_wp2_with fail
  have hor := clr_bit (has c) b i HB.out hi
  rw [← has_put_none c i] at hor
  have hm : cnt (has (put c i none)) 32 = m := by
    have := cnt_off (has c) hi HHI.out
    rw [has_put_none]; have := HN.out; omega
  have hrow : rowC (put c i none) 0 32 = X1 ++ X2 := by
    rw [rowC_put c _ hi, HX1.out, HX2.out]; rfl
  have hle : w.heap.size ≤ w.heap.size + 1 := by omega
  have hw2 := HB1.out.size
  have hlt2 := blk_lt HBR.out
  refine bodyPost_ret (results_c1 rfl _ _ (w.heap.size + 1) RWT #[.int .u32 _, .slice (some ⟨w2.heap.size, 0, none⟩) m m] (0, 0) _ rfl (put2 HR5.out) Tryd.underlying114 rfl (by kernel_rfl)) rfl ?_
  refine ⟨_, rfl, ⟨_, by rw [hor], ?_⟩, below_put2 (below_trans HB1.out hb5) hle _ _⟩
  refine rows_blk (t := ST) (three_put H.out.2 _ _ (fun y hy => by cases hy)) hm ?_ ?_ (New.fresh hw2)
  · rw [hrow, ← row_less m j (zs m) X1 X2 (zs_length _) HL1.out HL2.out hjm]
    exact blk_far (blk_far HG5.out (p := ⟨w.heap.size + 1, 0, none⟩) (Nat.ne_of_gt hlt2) _) (p := ⟨w.heap.size + 1, 1, none⟩) (Nat.ne_of_gt hlt2) _
  · rw [hrow]
    intro v hv
    rcases List.mem_append.1 hv with hv | hv
    · exact HONE.out v (List.mem_append_left _ hv)
    · exact HONE.out v (List.mem_append_right _ (List.mem_append_right _ hv))
set_option maxRecDepth 100000 in
set_option maxHeartbeats 4000000 in
theorem first_c (K : Nat → Prop) (c : Nat → Option (List Value)) (b i : Nat) (hb : b = bitsN (has c) 32) (hi : i < 32) (s : Value) (k : ByteArray) (x : Int) (q : Option Addr) (w : World) (h : RowS K w s c) (hx : c i = some [.string k, .int .i64 x, .pointer q]) (hlo : ∀ j, j < i → c j = none) (hT : Tab w) :
    Calls Tryd.prog 127 #[.agg #[.int .u32 (b : Int), s]] w (Ret (fun v _ => v = .tuple #[.int .i64 (i : Int), .agg #[.string k, .int .i64 x, .pointer q], .bool true]) w) := by
  obtain ⟨g, n, cp, rfl, hlt, hn, k0, k1, k2⟩ := h.at hi hx
  have hj : cnt (has c) i = 0 := by
    unfold cnt
    rw [List.length_eq_zero_iff, List.filter_eq_nil_iff]
    intro j hj
    simp [has, hlo j (List.mem_range.1 hj)]
  have hbl : b < 4294967296 := by rw [hb]; exact bitsN_lt _ 32
  have hb0 : b ≠ 0 := by
    rw [hb]
    intro h0
    have := bitsN_zero.1 h0 i hi
    simp [has, hx] at this
  have hz : Lib.ctz 32 b = i := by rw [hb]; exact ctz_low _ hi (by simp [has, hx]) fun j hj => by simp [has, hlo j hj]
  have HZ := Lib.hid (fun V (hw : Below w.heap.size w V) => tz_c b hbl hb0 V (hT.below hw))
  rw [hz] at HZ
  rw [hj] at k0 k1 k2 hlt
  simp only [Nat.zero_mul, Nat.zero_add] at k0 k1 k2
  have hbe : ((b : Int) == 0) = false := beq_false_of_ne (by omega)
  clear hb hj hx h hb0 hbl hlo hz hT
  have hnI : (0 : Int) < (n : Int) := by omega
  go_enter Tryd.func127, Tryd.ntmps127
  have BA : ((w.alloc _).alloc _).heap[w.heap.size]? = _ := blk_alloc (blk_new w (.cells #[.int .u32 (b : Int), .slice (some ⟨g, 0, none⟩) n cp] RWT)) (.cells #[.string ⟨#[]⟩, .int .i64 0, .pointer none] ST)
  have BR : ((w.alloc _).alloc _).heap[w.heap.size + 1]? = _ := heap_k1 w (.cells #[.int .u32 (b : Int), .slice (some ⟨g, 0, none⟩) n cp] RWT) (.cells #[.string ⟨#[]⟩, .int .i64 0, .pointer none] ST)
  have hB1 : Below w.heap.size w _ := ((Below.refl w.heap.size w).alloc (Nat.le_refl _) (.cells #[.int .u32 (b : Int), .slice (some ⟨g, 0, none⟩) n cp] RWT)).alloc (by simp) (.cells #[.string ⟨#[]⟩, .int .i64 0, .pointer none] ST)
  have hgw : g < w.heap.size := block_lt k0
  have K0 := cell_below k0 hB1; have K1 := cell_below k1 hB1; have K2 := cell_below k2 hB1
  obtain ⟨⟨a0, a1⟩, -, -⟩ := box2 BA
  have HBR := Lib.hid BR; have HB1 := Lib.hid hB1
  have n1 : w.heap.size + 1 ≠ g := by omega
  have n2 : w.heap.size ≠ g := by omega
  clear BA BR hB1
  go_wp2_with fail
  go_region_held3 (fun w' => w'.cell? ⟨w.heap.size, 0, none⟩ = some (.int .u32 (b : Int)) ∧ w'.cell? ⟨w.heap.size, 1, none⟩ = some (.slice (some ⟨g, 0, none⟩) n cp) ∧ w'.cell? ⟨g, 0, none⟩ = some (.string k) ∧ w'.cell? ⟨g, 1, none⟩ = some (.int .i64 x) ∧ w'.cell? ⟨g, 2, none⟩ = some (.pointer q))
    ((refine ⟨?_, ?_, ?_, ?_, ?_⟩ <;> first | (with_reducible assumption) | (with_reducible exact cell_below a0 (by assumption)) | (with_reducible exact cell_below a1 (by assumption)) | (with_reducible exact cell_below K0 (by assumption)) | (with_reducible exact cell_below K1 (by assumption)) | (with_reducible exact cell_below K2 (by assumption)) | (go_keep; done)))
    (first
      | (go_at_call 121; (with_reducible refine (HZ.out _ ?_).mono ?_); (exact HB1.out.drew); rintro e w2 ⟨v, rfl, rfl, hb2⟩; have hb2' := below_trans (w1 := World.drew _) (Below.refl _ _).drew hb2; obtain ⟨⟨r0, r1, r2⟩, f0, f1, f2⟩ := box3 (blk_below HBR.out hb2'))
      | fail)
  go_wp2_with fail
  have hs2 : w.heap.size ≤ w.heap.size + 1 := Nat.le_succ _
  refine bodyPost_ret (results_tct rfl _ _ (w.heap.size + 1) ST #[.string k, .int .i64 x, .pointer q] (0, 0) _ _ _ rfl rfl rfl (put3 (blk_below HBR.out hb2')) Tryd.underlying124 rfl (by kernel_rfl)) rfl ?_
  exact ⟨_, rfl, rfl, below_put3 (below_trans HB1.out hb2') hs2 _ _ _⟩
end Go.Proofs.YtnegblckbomgdaaDoor.Ht
end
section
namespace Go.Proofs.YtnegblckbomgdaaDoor.Ht
open Go Go.RowKit Go.Proofs.YtnegblckbomgdaaDoor.Mem Go.Proofs.YtnegblckbomgdaaDoor.PA Go.Proofs.YtnegblckbomgdaaDoorW.PrintWords Go.Proofs.YtnegblckbomgdaaDoorW.PrintLast Go.Proofs.YtnegblckbomgdaaDoor.U64
def c1 : BitVec 64 := 11400714819323198485#64
def c2 : BitVec 64 := 15485907386658061715#64
def rot (t : BitVec 64) : BitVec 64 := t <<< 31 ||| t >>> 33
def stepB (h x : BitVec 64) : BitVec 64 := rot ((h ^^^ x) * c1) + c2
def endB (h : BitVec 64) : BitVec 64 := ((h ^^^ h >>> 32) * c2) ^^^ ((h ^^^ h >>> 32) * c2) >>> 32
theorem hc1 : (11400714819323198485 : Int) = U c1 := by decide +kernel
theorem hc2 : (15485907386658061715 : Int) = U c2 := by decide +kernel
theorem hand : Go.bits .and .u64 (IntKind.u64.wrap (31)) 63 = 31 := by decide +kernel
theorem hsub : IntKind.u64.wrap (64 - 31) = 33 := by decide +kernel
theorem rot31 (x : BitVec 64) : bits_RotateLeft64.f (U x) 31 = some (U (rot x)) := by
  unfold bits_RotateLeft64.f
  rw [hand, hsub, if_pos (by decide), if_pos (by decide)]
  rw [show (31 : Int) = ((31 : Nat) : Int) from rfl, show (33 : Int) = ((33 : Nat) : Int) from rfl, shl_U _ _ (by decide), shr_U _ _ (by decide), or_U]; rfl
theorem step_eq (h x : BitVec 64) : mix_Step.f (U h) (U x) = some (U (stepB h x)) := by
  unfold mix_Step.f
  rw [xor_U, hc1, mul_U, rot31]; simp only [Option.bind_some]
  rw [hc2, add_U]; rfl
theorem div32 (h : BitVec 64) : U h / (4294967296 : Int) = U (h >>> 32) := by
  have e := div_U h 32
  rwa [show ((2 ^ 32 : Nat) : Int) = (4294967296 : Int) by decide] at e
theorem end_eq (h : BitVec 64) : mix_End.f (U h) = some (U (endB h)) := by
  unfold mix_End.f
  rw [div32, xor_U, hc2, mul_U, div32, xor_U]; rfl
theorem U1 : (1 : Int) = U 1#64 := by decide +kernel
theorem U0 : (0 : Int) = U 0#64 := by decide +kernel
theorem U31 : (31 : Int) = U 31#64 := by decide +kernel
theorem ones_bit (n i : Nat) (hn : n < 64) : (1#64 <<< n - 1#64).getLsbD i = decide (i < n) := by
  have hp : 2 ^ n < 2 ^ 64 := Nat.pow_lt_pow_right (by decide) hn
  have hq : 0 < 2 ^ n := Nat.two_pow_pos n
  have e : (1#64 <<< n - 1#64).toNat = 2 ^ n - 1 := by
    rw [BitVec.toNat_sub, BitVec.toNat_shiftLeft, Nat.shiftLeft_eq]
    simp only [BitVec.toNat_ofNat]
    rw [show (1 : Nat) % 2 ^ 64 = 1 by decide, Nat.one_mul, Nat.mod_eq_of_lt hp]
    omega
  rw [BitVec.getLsbD, e, Nat.testBit_two_pow_sub_one]
theorem one_shl_bit (n i : Nat) (hn : n < 64) : (1#64 <<< n).getLsbD i = decide (i = n) := by
  rw [BitVec.getLsbD_shiftLeft, BitVec.getLsbD_one]
  by_cases h : i = n
  · subst h; rw [Nat.sub_self, decide_eq_true hn, decide_eq_false (Nat.lt_irrefl i)]; exact Eq.trans rfl (decide_eq_true (rfl : i = i)).symm
  · rw [decide_eq_false h]
    by_cases h2 : i < n
    · rw [decide_eq_true h2, Bool.not_true, Bool.and_false, Bool.false_and]
    · rw [decide_eq_false (show ¬ i - n = 0 by omega), Bool.and_false, Bool.and_false]
def low (h : BitVec 64) (n : Int) : BitVec 64 := if n ≤ 0 then 0#64 else if n ≥ 64 then h else h &&& (1#64 <<< n.toNat - 1#64)
theorem low_bit (h : BitVec 64) (n : Int) (i : Nat) : (low h n).getLsbD i = (decide ((i : Int) < n) && h.getLsbD i) := by
  unfold low
  by_cases h0 : n ≤ 0
  · rw [if_pos h0, show decide ((i : Int) < n) = false by simp; omega]; simp
  · rw [if_neg h0]
    by_cases h1 : n ≥ 64
    · rw [if_pos h1]
      by_cases hi : (i : Int) < n
      · simp [hi]
      · rw [BitVec.getLsbD_of_ge _ _ (by omega)]; simp
    · rw [if_neg h1, BitVec.getLsbD_and, ones_bit _ _ (by omega), Bool.and_comm]
      congr 1
      exact decide_eq_decide.mpr (show i < n.toNat ↔ (i : Int) < n by omega)
theorem wrap_nat {n : Int} (h0 : 0 ≤ n) (h1 : n < 18446744073709551616) : IntKind.u64.wrap n = n := by rw [wrap_u64]; omega
theorem narrow_eq (h : BitVec 64) (n : Int) : mix_Narrow.f (U h) n = some (U (low h n)) := by
  unfold mix_Narrow.f low
  by_cases h0 : n ≤ 0
  · rw [if_pos h0, if_pos h0, U0]
  · rw [if_neg h0, if_neg h0]
    by_cases h1 : n ≥ 64
    · rw [if_pos h1, if_pos h1]
    · obtain ⟨m, rfl⟩ : ∃ m : Nat, n = m := ⟨n.toNat, by omega⟩
      rw [if_neg h1, if_neg h1, wrap_nat (by omega) (by omega), if_pos (by omega), U1, shl_U _ _ (by omega), sub_U, and_U]
      rfl
def chunkB (h : BitVec 64) (l : Int) : BitVec 64 := if l < 0 ∨ 12 < l then 0#64 else (h >>> (5 * l).toNat) &&& 31#64
theorem and31 (h : BitVec 64) : (h &&& 31#64).toNat = h.toNat % 32 := by
  rw [BitVec.toNat_and]; exact Nat.and_two_pow_sub_one_eq_mod h.toNat 5
theorem and31_lt (h : BitVec 64) : U (h &&& 31#64) < 32 := by
  unfold U; rw [and31]; omega
theorem wrap_small {n : Int} (h0 : 0 ≤ n) (h1 : n < 9223372036854775808) : wrap64 n = n := by unfold wrap64; omega
theorem chunk_eq (h : BitVec 64) (l : Int) : mix_Chunk.f (U h) l = some (U (chunkB h l)) := by
  unfold mix_Chunk.f chunkB
  by_cases h0 : l < 0
  · rw [if_pos h0, if_pos (Or.inl h0), U0]
  · rw [if_neg h0]
    by_cases h1 : l ≥ 13
    · rw [if_pos h1, if_pos (Or.inr (by omega)), U0]
    · have e : (5 * l) = ((5 * l).toNat : Nat) := by omega
      rw [if_neg h1, if_neg (show ¬ (l < 0 ∨ 12 < l) by omega), wrap_small (by omega) (by omega), wrap_nat (by omega) (by omega), if_pos (by omega), e, shr_U _ _ (by omega), U31, and_U,
        wrap_small (U_nonneg _) (by have := and31_lt (h >>> (5 * l).toNat); omega)]
      rfl
theorem rchunk_eq (h : BitVec 64) (l : Int) : placketref03_Chunk.f (U h) l = some (U (chunkB h l)) := by
  unfold placketref03_Chunk.f chunkB
  by_cases h0 : l < 0
  · rw [if_pos h0, if_pos (Or.inl h0), U0]
  · rw [if_neg h0]
    by_cases h1 : l > 12
    · rw [if_pos h1, if_pos (Or.inr (by omega)), U0]
    · have e : (5 * l) = ((5 * l).toNat : Nat) := by omega
      have g : Int.tmod (U (h >>> (5 * l).toNat)) 32 = U ((h >>> (5 * l).toNat) &&& 31#64) := by
        rw [Int.tmod_eq_emod_of_nonneg (U_nonneg _)]; unfold U; rw [and31]; omega
      rw [if_neg h1, if_neg (show ¬ (l < 0 ∨ 12 < l) by omega), wrap_small (by omega) (by omega), wrap_nat (by omega) (by omega), if_pos (by omega), e, shr_U _ _ (by omega), g,
        wrap_small (U_nonneg _) (by have := and31_lt (h >>> (5 * l).toNat); omega)]
      rfl
theorem rnarrow_l (h : BitVec 64) (n : Int) (d : Nat) : ∀ (k i : Nat) (b : BitVec 64), i + d = 64 → d < k →
    (∀ j, b.getLsbD j = (decide (j < i) && (decide ((j : Int) < n) && h.getLsbD j))) → placketref03_Narrow.l0 k (U h) n (U b) (i : Int) = some (U (low h n)) := by
  induction d with
  | zero =>
    intro k i b hi hk hb
    obtain ⟨k, rfl⟩ : ∃ m, k = m + 1 := ⟨k - 1, by omega⟩
    simp only [placketref03_Narrow.l0]; rw [if_neg (by omega)]
    have : b = low h n := by
      apply BitVec.eq_of_getLsbD_eq
      intro j hj
      rw [hb, low_bit, show decide (j < i) = true by simp; omega]; simp
    rw [this]
  | succ d ih =>
    intro k i b hi hk hb
    obtain ⟨k, rfl⟩ : ∃ m, k = m + 1 := ⟨k - 1, by omega⟩
    simp only [placketref03_Narrow.l0]; rw [if_pos (by omega)]
    have e : wrap64 ((i : Int) + 1) = ((i + 1 : Nat) : Int) := by rw [wrap_small (by omega) (by omega)]; rfl
    by_cases hlt : (i : Int) < n
    · rw [if_pos hlt, wrap_nat (by omega) (by omega), if_pos (by omega), U1, shl_U _ _ (by omega), and_U, or_U, ← U1, e]
      refine ih k (i + 1) _ (by omega) (by omega) fun j => ?_
      rw [BitVec.getLsbD_or, BitVec.getLsbD_and, one_shl_bit _ _ (by omega), hb]
      by_cases h1 : j = i
      · subst h1; simp [hlt]
      · have : (j < i + 1) ↔ j < i := by omega
        simp [h1, this]
    · rw [if_neg hlt, e]
      refine ih k (i + 1) _ (by omega) (by omega) fun j => ?_
      rw [hb]
      by_cases h1 : j = i
      · subst h1; simp [hlt]
      · have : (j < i + 1) ↔ j < i := by omega
        simp [this]
theorem div33 (h : BitVec 64) : U h / (8589934592 : Int) = U (h >>> 33) := by
  have e := div_U h 33
  rwa [show ((2 ^ 33 : Nat) : Int) = (8589934592 : Int) by decide] at e
theorem mul31 (h : BitVec 64) : IntKind.u64.wrap (U h * (2147483648 : Int)) = U (h <<< 31) := by
  have e := shl_mul_U h 31
  rwa [show ((2 ^ 31 : Nat) : Int) = (2147483648 : Int) by decide] at e
theorem rstep_eq (h x : BitVec 64) : placketref03_Step.f (U h) (U x) = some (U (stepB h x)) := by
  unfold placketref03_Step.f
  rw [xor_U, hc1, mul_U, mul31, div33, or_U, hc2, add_U]; rfl
theorem rend_eq (h : BitVec 64) : placketref03_End.f (U h) = some (U (endB h)) := by
  unfold placketref03_End.f
  rw [div32, xor_U, hc2, mul_U, div32, xor_U]; rfl
theorem mul8 (h : BitVec 64) : IntKind.u64.wrap (U h * (256 : Int)) = U (h <<< 8) := by
  have e := shl_mul_U h 8
  rwa [show ((2 ^ 8 : Nat) : Int) = (256 : Int) by decide] at e
def byteB (s : ByteArray) (p : Nat) : BitVec 64 := if p < s.size then BitVec.ofInt 64 (bt s (p : Int)) else 0#64
def mgo (s : ByteArray) (t : Nat) : Nat → Nat → BitVec 64 → BitVec 64
  | _, 0, x => x
  | j, d + 1, x => mgo s t (j + 1) d (x <<< 8 ||| byteB s (t + j))
def racc (s : ByteArray) (t : Nat) : Nat → BitVec 64
  | 0 => 0#64
  | j + 1 => racc s t j ||| byteB s (t + j) <<< (56 - 8 * j)
theorem racc_succ (s : ByteArray) (t j : Nat) : racc s t (j + 1) = racc s t j ||| byteB s (t + j) <<< (56 - 8 * j) := rfl
theorem word_same (s : ByteArray) (t : Nat) : mgo s t 0 8 0#64 = racc s t 8 := by
  simp only [mgo, racc, BitVec.shiftLeft_or_distrib, ← BitVec.shiftLeft_add, BitVec.zero_shiftLeft, BitVec.zero_or, BitVec.shiftLeft_zero,
    Nat.reduceAdd, Nat.reduceMul, Nat.reduceSub]
theorem racc_stop (s : ByteArray) (t q : Nat) (h : s.size ≤ t + q) (j : Nat) : racc s t (q + j) = racc s t q := by
  induction j with
  | zero => rfl
  | succ j ih =>
    rw [← Nat.add_assoc]
    show racc s t (q + j) ||| byteB s (t + (q + j)) <<< (56 - 8 * (q + j)) = racc s t q
    rw [ih]
    unfold byteB
    rw [if_neg (by omega), BitVec.zero_shiftLeft, BitVec.or_zero]
theorem word_l (s : ByteArray) (t : Nat) (ht : t ≤ 140737488351232) (d : Nat) : ∀ (k j : Nat) (x : BitVec 64), j + d = 8 → d < k →
    mix_word.l0 k s (t : Int) (U x) (j : Int) = some (U (mgo s t j d x)) := by
  induction d with
  | zero =>
    intro k j x hj hk
    obtain ⟨k, rfl⟩ : ∃ m, k = m + 1 := ⟨k - 1, by omega⟩
    simp only [mix_word.l0]; rw [if_neg (by omega)]; rfl
  | succ d ih =>
    intro k j x hj hk
    obtain ⟨k, rfl⟩ : ∃ m, k = m + 1 := ⟨k - 1, by omega⟩
    have e : wrap64 ((j : Int) + 1) = ((j + 1 : Nat) : Int) := by rw [wrap_small (by omega) (by omega)]; rfl
    have e2 : wrap64 ((t : Int) + (j : Int)) = ((t + j : Nat) : Int) := by rw [wrap_small (by omega) (by omega)]; rfl
    simp only [mix_word.l0]; rw [if_pos (by omega), e2, mul8]
    show _ = some (U (mgo s t (j + 1) d (x <<< 8 ||| byteB s (t + j))))
    by_cases hlt : ((t + j : Nat) : Int) < (s.size : Int)
    · have hb : byteB s (t + j) = BitVec.ofInt 64 (bt s ((t + j : Nat) : Int)) := by unfold byteB; rw [if_pos (by omega)]
      rw [if_pos hlt, if_pos (by omega), wrap_U (bt s _), or_U, e, hb]
      exact ih k (j + 1) _ (by omega) (by omega)
    · have hb : byteB s (t + j) = 0#64 := by unfold byteB; rw [if_neg (by omega)]
      rw [if_neg hlt, e, hb, BitVec.or_zero]
      exact ih k (j + 1) _ (by omega) (by omega)
theorem word_eq (s : ByteArray) (t : Nat) (ht : t ≤ 140737488351232) (k : Nat) (hk : 8 < k) :
    mix_word.f k s (t : Int) = some (U (racc s t 8)) := by
  unfold mix_word.f
  rw [U0, ← word_same]
  exact word_l s t ht 8 k 0 0#64 rfl hk
def sumT (s : ByteArray) : Nat → Nat → BitVec 64 → BitVec 64
  | _, 0, h => endB h
  | g, d + 1, h => if 8 * g < s.size then sumT s (g + 1) d (stepB h (racc s (8 * g) 8)) else endB h
theorem text_l (s : ByteArray) (hs : s.size ≤ 140737488351232) (d : Nat) : ∀ (k g : Nat) (h : BitVec 64), s.size < 8 * g + 8 * d → d + 9 < k → 8 * g ≤ s.size + 8 →
    mix_Text.l0 k s (U h) ((8 * g : Nat) : Int) = some (U (sumT s g d h)) := by
  induction d with
  | zero =>
    intro k g h hd hk hg
    obtain ⟨k, rfl⟩ : ∃ m, k = m + 1 := ⟨k - 1, by omega⟩
    simp only [mix_Text.l0]; rw [if_neg (by omega), end_eq]; rfl
  | succ d ih =>
    intro k g h hd hk hg
    obtain ⟨k, rfl⟩ : ∃ m, k = m + 1 := ⟨k - 1, by omega⟩
    simp only [mix_Text.l0]
    by_cases hlt : 8 * g < s.size
    · have e : wrap64 (((8 * g : Nat) : Int) + 8) = ((8 * (g + 1) : Nat) : Int) := by rw [wrap_small (by omega) (by omega)]; omega
      rw [if_pos (by omega), word_eq s _ (by omega) k (by omega)]; simp only [Option.bind_some]
      rw [step_eq]; simp only [Option.bind_some]
      rw [e, ih k (g + 1) _ (by omega) (by omega) (by omega)]
      conv => rhs; unfold sumT
      rw [if_pos hlt]
    · rw [if_neg (by omega), end_eq]
      conv => rhs; unfold sumT
      rw [if_neg hlt]; rfl
theorem rround (s : ByteArray) (hs : s.size ≤ 140737488351232) (h : BitVec 64) (g j k : Nat) (hj : j < 8) (hi : 8 * g + j < s.size) (x : BitVec 64) :
    placketref03_Text.l0 (k + 1) s (U h) (U x) (s.size : Int) ((8 * g + j : Nat) : Int)
      = if j = 7 ∨ 8 * g + j + 1 = s.size then placketref03_Text.l0 k s (U (stepB h (x ||| byteB s (8 * g + j) <<< (56 - 8 * j)))) (U 0#64) (s.size : Int) ((8 * g + j + 1 : Nat) : Int)
        else placketref03_Text.l0 k s (U h) (U (x ||| byteB s (8 * g + j) <<< (56 - 8 * j))) (s.size : Int) ((8 * g + j + 1 : Nat) : Int) := by
  have hm : Int.tmod ((8 * g + j : Nat) : Int) 8 = j := by rw [Int.tmod_eq_emod_of_nonneg (by omega)]; omega
  have e1 : wrap64 (8 * (j : Int)) = 8 * (j : Int) := wrap_small (by omega) (by omega)
  have e2 : wrap64 (56 - 8 * (j : Int)) = 56 - 8 * (j : Int) := wrap_small (by omega) (by omega)
  have e3 : IntKind.u64.wrap (56 - 8 * (j : Int)) = ((56 - 8 * j : Nat) : Int) := by rw [wrap_nat (by omega) (by omega)]; omega
  have e : wrap64 (((8 * g + j : Nat) : Int) + 1) = ((8 * g + j + 1 : Nat) : Int) := by rw [wrap_small (by omega) (by omega)]; omega
  have e4 : wrap64 ((s.size : Int) - 1) = (s.size : Int) - 1 := wrap_small (by omega) (by omega)
  have hb : BitVec.ofInt 64 (bt s ((8 * g + j : Nat) : Int)) = byteB s (8 * g + j) := by unfold byteB; rw [if_pos hi]
  have g1 : ((8 * g + j : Nat) : Int) < (s.size : Int) := by omega
  have g2 : (0 : Int) ≤ ((8 * g + j : Nat) : Int) := by omega
  have g3 : (0 : Int) ≤ ((56 - 8 * j : Nat) : Int) := by omega
  have g4 : 56 - 8 * j ≤ 64 := by omega
  have h7 : ((j : Int) = 7) ↔ j = 7 := by omega
  have h8 : (((8 * g + j : Nat) : Int) = (s.size : Int) - 1) ↔ 8 * g + j + 1 = s.size := by omega
  clear hs hj hi
  simp only [placketref03_Text.l0]
  rw [if_pos g1, if_pos g2, if_pos g1, hm, e1, e2, e3, if_pos g3, e4, wrap_U (bt s _), hb, shl_U _ _ g4, or_U, e, rstep_eq]
  simp only [Option.bind_some]
  rw [← U0]
  by_cases c7 : j = 7
  · rw [if_pos (h7.2 c7), if_pos (Or.inl c7)]
  · rw [if_neg (mt h7.1 c7)]
    by_cases c8 : 8 * g + j + 1 = s.size
    · rw [if_pos (h8.2 c8), if_pos (Or.inr c8)]
    · rw [if_neg (mt h8.1 c8), if_neg (fun o => o.elim c7 c8)]
theorem rgroup (s : ByteArray) (hs : s.size ≤ 140737488351232) (h : BitVec 64) (g : Nat) (d : Nat) : ∀ (k j : Nat), j + d + 1 = min 8 (s.size - 8 * g) → d < k →
    placketref03_Text.l0 k s (U h) (U (racc s (8 * g) j)) (s.size : Int) ((8 * g + j : Nat) : Int)
      = placketref03_Text.l0 (k - (d + 1)) s (U (stepB h (racc s (8 * g) 8))) (U 0#64) (s.size : Int) ((8 * g + j + d + 1 : Nat) : Int) := by
  induction d with
  | zero =>
    intro k j hj hk
    obtain ⟨k, rfl⟩ : ∃ m, k = m + 1 := ⟨k - 1, by omega⟩
    have hr : racc s (8 * g) (j + 1) = racc s (8 * g) 8 := by
      by_cases h7 : j = 7
      · rw [h7]
      · have := racc_stop s (8 * g) (j + 1) (by omega) (8 - (j + 1))
        rw [← this]; congr 1; omega
    rw [rround s hs h g j k (by omega) (by omega), if_pos (by omega), ← racc_succ, hr, show k + 1 - (0 + 1) = k by omega]
  | succ d ih =>
    intro k j hj hk
    obtain ⟨k, rfl⟩ : ∃ m, k = m + 1 := ⟨k - 1, by omega⟩
    have := ih k (j + 1) (by omega) (by omega)
    rw [rround s hs h g j k (by omega) (by omega), if_neg (by omega), ← racc_succ, show k + 1 - (d + 1 + 1) = k - (d + 1) by omega, show 8 * g + j + (d + 1) + 1 = 8 * g + (j + 1) + d + 1 by omega]
    exact this
theorem rtext_l (s : ByteArray) (hs : s.size ≤ 140737488351232) (d : Nat) : ∀ (k g : Nat) (h : BitVec 64), s.size < 8 * g + 8 * d → 8 * d + 1 < k →
    placketref03_Text.l0 k s (U h) (U 0#64) (s.size : Int) ((min (8 * g) s.size : Nat) : Int) = some (U (sumT s g d h)) := by
  induction d with
  | zero =>
    intro k g h hd hk
    obtain ⟨k, rfl⟩ : ∃ m, k = m + 1 := ⟨k - 1, by omega⟩
    simp only [placketref03_Text.l0]; rw [if_neg (by omega), rend_eq]; rfl
  | succ d ih =>
    intro k g h hd hk
    by_cases hlt : 8 * g < s.size
    · obtain ⟨q, hq⟩ : ∃ q, q + 1 = min 8 (s.size - 8 * g) := ⟨min 8 (s.size - 8 * g) - 1, by omega⟩
      have := rgroup s hs h g q k 0 (by omega) (by omega)
      rw [show min (8 * g) s.size = 8 * g + 0 by omega]
      refine this.trans ?_
      rw [show 8 * g + 0 + q + 1 = min (8 * (g + 1)) s.size by omega, ih _ (g + 1) _ (by omega) (by omega)]
      conv => rhs; unfold sumT
      rw [if_pos hlt]
    · obtain ⟨k, rfl⟩ : ∃ m, k = m + 1 := ⟨k - 1, by omega⟩
      simp only [placketref03_Text.l0]
      rw [if_neg (by omega), rend_eq]
      conv => rhs; unfold sumT
      rw [if_neg hlt]; rfl
def sumB (seed : BitVec 64) (s : ByteArray) : BitVec 64 := sumT s 0 (s.size + 1) (stepB seed (BitVec.ofInt 64 (s.size : Int)))
theorem text_eq (seed : BitVec 64) (s : ByteArray) (hs : s.size ≤ 140737488351232) : mix_Text.f (8 * s.size + 20) (U seed) s = some (U (sumB seed s)) := by
  unfold mix_Text.f; rw [wrap_U, step_eq]; exact text_l s hs (s.size + 1) _ 0 _ (by omega) (by omega) (by omega)
theorem rtext_eq (seed : BitVec 64) (s : ByteArray) (hs : s.size ≤ 140737488351232) : placketref03_Text.f (8 * s.size + 20) (U seed) s = some (U (sumB seed s)) := by
  unfold placketref03_Text.f; rw [wrap_U, rstep_eq]
  have := rtext_l s hs (s.size + 1) (8 * s.size + 20) 0 (stepB seed (BitVec.ofInt 64 (s.size : Int))) (by omega) (by omega)
  rw [show min (8 * 0) s.size = 0 by omega, ← U0] at this
  exact this
theorem rnarrow_eq (h : BitVec 64) (n : Int) : placketref03_Narrow.f 65 (U h) n = some (U (low h n)) := rnarrow_l h n 64 65 0 0#64 rfl (by decide) fun j => by simp
abbrev Cf := BitVec 64 × Int
def hsh (c : Cf) (s : ByteArray) : BitVec 64 := low (sumB c.1 s) c.2
def chk (c : Cf) (lev : Nat) (s : ByteArray) : Nat := (chunkB (hsh c s) lev).toNat
theorem chk_lt (c : Cf) (lev : Nat) (s : ByteArray) : chk c lev s < 32 := by
  unfold chk chunkB
  split
  · decide
  · have h := and31_lt (hsh c s >>> (5 * (lev : Int)).toNat)
    unfold U at h
    omega
set_option maxHeartbeats 1000000 in
theorem sum_c (c : Cf) (n : Int) (p : Option Addr) (s : ByteArray) (hs : s.size ≤ 140737488351232) (w : World) :
    Calls Tryd.prog 33 #[.agg #[.int .u64 (U c.1), .int .i64 c.2, .int .i64 n, .pointer p], .string s] w (Ret (fun v _ => v = .int .u64 (U (hsh c s))) w) := by
  obtain ⟨seed, bits⟩ := c
  have HT := Lib.hid (fun V => mix_Text.calls (8 * s.size + 20) (U seed) s _ V (text_eq seed s hs))
  have HN := Lib.hid (fun V => mix_Narrow.calls (U (sumB seed s)) bits _ V (narrow_eq (sumB seed s) bits))
  show Calls Tryd.prog 33 #[.agg #[.int .u64 (U seed), .int .i64 bits, .int .i64 n, .pointer p], .string s] w (Ret (fun v _ => v = .int .u64 (U (low (sumB seed s) bits))) w)
  generalize U seed = x at HT ⊢
  generalize U (sumB seed s) = y at HT HN
  generalize U (low (sumB seed s) bits) = z at HN ⊢
  clear hs
  go_enter Tryd.func33, Tryd.ntmps33
  have BA : (w.alloc _).heap[w.heap.size]? = _ := blk_new w (.cells #[.int .u64 x, .int .i64 bits, .int .i64 n, .pointer p] 30)
  have a0 : (w.alloc (.cells #[.int .u64 x, .int .i64 bits, .int .i64 n, .pointer p] 30)).cell? ⟨w.heap.size, 0, none⟩ = some (.int .u64 x) := blk_cell BA 0
  have a1 : (w.alloc (.cells #[.int .u64 x, .int .i64 bits, .int .i64 n, .pointer p] 30)).cell? ⟨w.heap.size, 1, none⟩ = some (.int .i64 bits) := blk_cell BA 1
  clear BA
  go_wp2_with fail
  go_region_held3 (fun w' => w'.cell? ⟨w.heap.size, 0, none⟩ = some (.int .u64 x) ∧ w'.cell? ⟨w.heap.size, 1, none⟩ = some (.int .i64 bits))
    ((refine ⟨?_, ?_⟩ <;> first | (with_reducible assumption) | (with_reducible exact cell_below a0 (by assumption)) | (with_reducible exact cell_below a1 (by assumption)) | (go_keep; done)))
    (first
      | (go_at_call 83; (with_reducible refine (HT.out _).mono ?_); rintro e w1 ⟨rfl, hD1⟩; have hb1 := below_trans (w1 := World.drew _) (Below.refl _ _).drew hD1.below)
      | (go_at_call 82; (with_reducible refine (HN.out _).mono ?_); rintro e w2 ⟨rfl, hD2⟩; have hb2 := below_trans hb1 hD2.below)
      | fail)
  go_wp2_with fail
  go_returns
  exact ⟨_, rfl, rfl, below_trans ((Below.refl _ _).alloc (Nat.le_refl _) _) hb2⟩
theorem chunk_c (c : Cf) (s : ByteArray) (lev : Nat) (hl : lev ≤ 12) (w : World) :
    Calls Tryd.prog 78 #[.int .u64 (U (hsh c s)), .int .i64 (lev : Int)] w (Ret (fun v _ => v = .int .i64 (chk c lev s : Int)) w) := by
  refine (mix_Chunk.calls _ _ _ w (chunk_eq (hsh c s) (lev : Int))).mono ?_
  rintro e w' ⟨rfl, hD⟩
  exact ⟨_, rfl, rfl, hD.below⟩
end Go.Proofs.YtnegblckbomgdaaDoor.Ht
end
