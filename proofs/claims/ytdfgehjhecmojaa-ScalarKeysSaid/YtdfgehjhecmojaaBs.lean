/- Laws on texts as lists of bytes, for the printed functions. -/
import Derived.Test.YtdfgehjhecmojaaWWords
import Derived.Lib.Strings
namespace Go.Proofs.Ytdfgehjhecmojaa.Bs
open Go Go.Proofs.YtdfgehjhecmojaaW.PrintWords

/-- a text of these bytes -/
def bs (l : List UInt8) : ByteArray := ⟨l.toArray⟩
/-- bytes as numbers -/
def N (l : List UInt8) : List Int := l.map fun c => (c.toNat : Int)

theorem bs_data (l : List UInt8) : (bs l).data.toList = l := by simp [bs]
theorem bs_size (l : List UInt8) : (bs l).size = l.length := by simp [bs, ByteArray.size]
theorem bs_of (s : ByteArray) : s = bs s.data.toList := by cases s; simp [bs]
theorem bs_toList (l : List UInt8) : (bs l).toList = l := by rw [ByteArray.toList_eq, bs_data]
theorem bs_inj {l m : List UInt8} (h : bs l = bs m) : l = m := by rw [← bs_data l, h, bs_data]
theorem data_inj {a b : ByteArray} (h : a.data.toList = b.data.toList) : a = b := by rw [bs_of a, bs_of b, h]
theorem data_append (a b : ByteArray) : (a ++ b).data.toList = a.data.toList ++ b.data.toList := by
  rw [ByteArray.data_append]; simp
theorem bs_append (l m : List UInt8) : bs l ++ bs m = bs (l ++ m) := data_inj (by rw [data_append, bs_data, bs_data, bs_data])
theorem bs_extract (l : List UInt8) (a b : Nat) : (bs l).extract a b = bs ((l.take b).drop a) := by
  apply data_inj
  rw [bs_data, ByteArray.data_extract]
  simp [bs, List.drop_take]
theorem strOfNums_N (l : List UInt8) : strOfNums (N l) = bs l := by
  apply data_inj
  rw [strOfNums_data, bs_data, N, List.map_map]
  conv => rhs; rw [← List.map_id l]
  refine List.map_congr_left fun c _ => ?_
  show UInt8.ofNat ((c.toNat : Int)).toNat = c
  rw [Int.toNat_natCast]; exact UInt8.ofNat_toNat
theorem bytesOf_bs (l : List UInt8) : bytesOf (bs l) = N l := by unfold bytesOf N; rw [bs_data]
theorem N_length (l : List UInt8) : (N l).length = l.length := by simp [N]
theorem N_append (l m : List UInt8) : N (l ++ m) = N l ++ N m := by simp [N]
theorem N_cons (c : UInt8) (l : List UInt8) : N (c :: l) = (c.toNat : Int) :: N l := rfl
theorem N_nil : N [] = [] := rfl

theorem drop_cons {α : Type} {l : List α} {i : Nat} {c : α} {r : List α} (h : l.drop i = c :: r) : i < l.length ∧ l.drop (i + 1) = r ∧ l[i]? = some c := by
  have hi : i < l.length := by
    rcases Nat.lt_or_ge i l.length with h1 | h1
    · exact h1
    · rw [List.drop_eq_nil_of_le h1] at h; cases h
  rw [List.drop_eq_getElem_cons hi] at h
  injection h with h1 h2
  exact ⟨hi, h2, by rw [List.getElem?_eq_getElem hi, h1]⟩
theorem bt_at {l : List UInt8} {i : Nat} {c : UInt8} (h : l[i]? = some c) : bt (bs l) (i : Int) = (c.toNat : Int) := by
  obtain ⟨hi, rfl⟩ := List.getElem?_eq_some_iff.1 h
  unfold bt
  rw [show ((i : Int)).toNat = i by omega, dif_pos (by rw [bs_size]; exact hi)]
  rfl
theorem bt_drop {l : List UInt8} {i : Nat} {c : UInt8} {r : List UInt8} (h : l.drop i = c :: r) : bt (bs l) (i : Int) = (c.toNat : Int) := bt_at (drop_cons h).2.2
theorem byte_zero (c : UInt8) : ((c.toNat : Int) = 0) ↔ c = 0 := by
  constructor
  · intro h; exact UInt8.toNat_inj.1 (by have : c.toNat = 0 := by omega
                                         rw [this]; rfl)
  · rintro rfl; rfl
theorem byte_eq (c d : UInt8) : ((c.toNat : Int) = (d.toNat : Int)) ↔ c = d := by
  constructor
  · intro h; exact UInt8.toNat_inj.1 (by omega)
  · rintro rfl; rfl
theorem byte_lt (c : UInt8) : (c.toNat : Int) < 256 := by have := c.toNat_lt; omega
theorem w64_in {n : Int} (h0 : -9223372036854775808 ≤ n) (h1 : n < 9223372036854775808) : Go.RowKit.wrap64 n = n := by unfold Go.RowKit.wrap64; omega
theorem w64_succ {n : Nat} (h1 : n < 9223372036854775807) : Go.RowKit.wrap64 ((n : Int) + 1) = ((n + 1 : Nat) : Int) := by rw [w64_in (by omega) (by omega)]; rfl
theorem none_mk : (⟨#[]⟩ : ByteArray) = bs [] := rfl

/-- at all large numbers of rounds -/
theorem Ev.ge {α : Type} {g : Nat → Option α} {r : α} (n : Nat) (h : ∀ k, g (k + n) = some r) : Ev g r :=
  ⟨n, fun k hk => by obtain ⟨m, rfl⟩ : ∃ m, k = m + n := ⟨k - n, by omega⟩; exact h m⟩
theorem Ev.shift {α : Type} {g : Nat → Option α} {r : α} (n : Nat) (h : Ev (fun k => g (k + n)) r) : Ev g r := by
  obtain ⟨K, h⟩ := h
  exact ⟨K + n, fun k hk => by obtain ⟨m, rfl⟩ : ∃ m, k = m + n := ⟨k - n, by omega⟩; exact h m (by omega)⟩
theorem Ev.both {α β : Type} {g : Nat → Option α} {f : Nat → Option β} {r : α} {q : β} (h : Ev g r) (k : Ev f q) : ∃ n, g n = some r ∧ f n = some q := by
  obtain ⟨K, h⟩ := h
  obtain ⟨K', k⟩ := k
  exact ⟨max K K', h _ (Nat.le_max_left _ _), k _ (Nat.le_max_right _ _)⟩
theorem Ev.up {α : Type} {g : Nat → Option α} {r : α} (h : Ev g r) (n : Nat) : Ev (fun k => g (k + n)) r := by
  obtain ⟨K, h⟩ := h
  exact ⟨K, fun k hk => h _ (by omega)⟩
theorem Ev.get {α : Type} {g : Nat → Option α} {r : α} (h : Ev g r) : ∃ K, ∀ k, K ≤ k → g k = some r := h
theorem Ev.all {α : Type} {g : Nat → Option α} {r : α} (h : ∀ k, g k = some r) : Ev g r := ⟨0, fun k _ => h k⟩
theorem Ev.const {α : Type} {g : Option α} {r : α} (h : g = some r) : Ev (fun _ => g) r := ⟨0, fun _ _ => h⟩
end Go.Proofs.Ytdfgehjhecmojaa.Bs
