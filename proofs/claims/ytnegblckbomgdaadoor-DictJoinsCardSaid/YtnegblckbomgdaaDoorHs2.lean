/- Laws of the maps' code and of the words it uses, gathered out of the printed and own texts; no conditions. -/
import Derived.Test.YtnegblckbomgdaaDoorHs1
import Derived.Deep.DeepCutAuto
import Derived.Laws.AppendOwn
import Derived.Lib.AppendZerosOnto
import Derived.Lib.Overlaps
import Derived.Lib.SliceRun
import Derived.Laws.Externs
import Derived.Deep.RegionLaw
set_option linter.unusedVariables false
set_option linter.unusedSimpArgs false
section
namespace Go.Proofs.YtnegblckbomgdaaDoor.Ht
open Go Go.RowKit Go.Proofs.YtnegblckbomgdaaDoor.Mem Go.Proofs.YtnegblckbomgdaaDoorW.PrintWords
abbrev NT : TypeId := 117
abbrev PT : TypeId := 121
abbrev PLT : TypeId := 115
abbrev MT : TypeId := 30
abbrev Pr := Ent Int
def pairc (e : Pr) : List Value := [.string e.1, .int .i64 e.2]
def prs (L : List Pr) : List Value := L.flatMap pairc
theorem prs_length (L : List Pr) : (prs L).length = L.length * 2 := by
  induction L with
  | nil => rfl
  | cons e L ih => show (pairc e ++ prs L).length = _; rw [List.length_append, ih]; simp [pairc]; omega
theorem prs_get : ∀ (L : List Pr) (i : Nat) (e : Pr), L[i]? = some e → (prs L)[i * 2]? = some (.string e.1) ∧ (prs L)[i * 2 + 1]? = some (.int .i64 e.2)
  | [], i, e, h => by simp at h
  | a :: L, 0, e, h => by simp at h; subst h; exact ⟨rfl, rfl⟩
  | a :: L, i + 1, e, h => by
    obtain ⟨h1, h2⟩ := prs_get L i e (by simpa using h)
    have e1 : (i + 1) * 2 = i * 2 + 1 + 1 := by omega
    show (Value.string a.1 :: Value.int .i64 a.2 :: prs L)[(i + 1) * 2]? = _ ∧ (Value.string a.1 :: Value.int .i64 a.2 :: prs L)[(i + 1) * 2 + 1]? = _
    rw [e1]
    simpa using ⟨h1, h2⟩
theorem prs_one (L : List Pr) : ∀ v ∈ prs L, v.oneCell' = true := by
  intro v hv
  obtain ⟨e, _, he⟩ := List.mem_flatMap.1 hv
  simp [pairc] at he
  rcases he with rfl | rfl <;> rfl
theorem prs_append (L M : List Pr) : prs (L ++ M) = prs L ++ prs M := List.flatMap_append
theorem prs_cons (e : Pr) (L : List Pr) : prs (e :: L) = pairc e ++ prs L := rfl
theorem prs_take (L : List Pr) (i : Nat) : (prs L).take (i * 2) = prs (L.take i) := by
  induction L generalizing i with
  | nil => simp [prs]
  | cons e L ih =>
    cases i with
    | zero => simp [prs]
    | succ i =>
      rw [List.take_succ_cons, prs_cons, prs_cons, show (i + 1) * 2 = i * 2 + 1 + 1 by omega, ← ih]
      rfl
theorem prs_drop (L : List Pr) (i : Nat) : (prs L).drop (i * 2) = prs (L.drop i) := by
  induction L generalizing i with
  | nil => simp [prs]
  | cons e L ih =>
    cases i with
    | zero => simp [prs]
    | succ i =>
      rw [List.drop_succ_cons, prs_cons, show (i + 1) * 2 = i * 2 + 1 + 1 by omega, ← ih]
      rfl
def grp (ck : ByteArray → Nat) (i : Nat) (L : List Pr) : List Pr := L.filter fun e => (fun k => decide (ck k = i)) e.1
def slotOf : List Pr → Option Addr → Option (List Value)
  | [], _ => none
  | [e], _ => some [.string e.1, .int .i64 e.2, .pointer none]
  | _ :: _ :: _, q => some [.string ⟨#[]⟩, .int .i64 0, .pointer q]
def conts (c : Cf) (lev : Nat) (L : List Pr) (q : Nat → Option Addr) : Nat → Option (List Value) := fun i => slotOf (grp (chk c lev) i L) (q i)
theorem slotOf_none {g : List Pr} {q : Option Addr} : slotOf g q = none ↔ g = [] := by
  match g with
  | [] => simp [slotOf]
  | [e] => simp [slotOf]
  | _ :: _ :: _ => simp [slotOf]
def HRep (c : Cf) (K : Nat → Prop) (w : World) : Nat → Option Addr → List Pr → Prop
  | 0, p, L => ∃ (g : Nat) (s : Value), p = some ⟨g, 0, none⟩ ∧ K g ∧ w.heap[g]? = some (.cells #[.int .u32 0, .slice none 0 0, s] 117 (0, 0)) ∧ SlK 2 K w s L.length (prs L)
  | d + 1, p, L => ∃ (g : Nat) (s : Value) (q : Nat → Option Addr), p = some ⟨g, 0, none⟩ ∧ K g ∧ w.heap[g]? = some (.cells #[.int .u32 (bitsN (has (conts c (12 - d) L q)) 32 : Int), s, .slice none 0 0] 117 (0, 0)) ∧
      RowS K w s (conts c (12 - d) L q) ∧ ∀ i, i < 32 → 2 ≤ (grp (chk c (12 - d)) i L).length → HRep c K w d (q i) (grp (chk c (12 - d)) i L)
theorem RowS.keep {K K' : Nat → Prop} {w w' : World} {s : Value} {c : Nat → Option (List Value)} (hK : ∀ b, K b → b < w.heap.size → K' b) (hb : ∀ b, K b → b < w.heap.size → w'.heap[b]? = w.heap[b]?) (h : RowS K w s c) : RowS K' w' s c :=
  ⟨((h.1.bound (by decide)).keep fun b h _ => hb b h.1 h.2).mono fun b h => hK b h.1 h.2, h.2⟩
theorem HRep.keep {c : Cf} {K K' : Nat → Prop} {w w' : World} (hK : ∀ b, K b → b < w.heap.size → K' b) (hb : ∀ b, K b → b < w.heap.size → w'.heap[b]? = w.heap[b]?) : ∀ {d : Nat} {p : Option Addr} {L : List Pr}, HRep c K w d p L → HRep c K' w' d p L
  | 0, _, _, ⟨g, s, h1, hk, h2, h3⟩ => ⟨g, s, h1, hK _ hk (blk_lt h2), (hb g hk (blk_lt h2)).trans h2, ((h3.bound (by decide)).keep fun b h _ => hb b h.1 h.2).mono fun b h => hK b h.1 h.2⟩
  | d + 1, _, _, ⟨g, s, q, h1, hk, h2, h3, h4⟩ => ⟨g, s, q, h1, hK _ hk (blk_lt h2), (hb g hk (blk_lt h2)).trans h2, h3.keep hK hb, fun i hi h => HRep.keep hK hb (h4 i hi h)⟩
section
variable {c : Cf} {K K' : Nat → Prop} {w w' : World} {d : Nat} {p : Option Addr} {L : List Pr}
theorem HRep.below (h : HRep c K w d p L) (hb : Below w.heap.size w w') : HRep c K w' d p L := h.keep (fun _ h _ => h) (fun b _ hlt => hb.block b hlt)
theorem HRep.mono (h : HRep c K w d p L) (hK : ∀ b, K b → K' b) : HRep c K' w d p L := h.keep (fun b h _ => hK b h) (fun _ _ _ => rfl)
theorem HRep.bound (h : HRep c K w d p L) : HRep c (fun b => K b ∧ b < w.heap.size) w d p L := h.keep (fun _ h hl => ⟨h, hl⟩) (fun _ _ _ => rfl)
theorem HRep.ptr (h : HRep c K w d p L) : ∃ g, p = some ⟨g, 0, none⟩ ∧ K g ∧ g < w.heap.size := by
  cases d with
  | zero => obtain ⟨g, s, h1, h2, h3, _⟩ := h; exact ⟨g, h1, h2, blk_lt h3⟩
  | succ d => obtain ⟨g, s, q, h1, h2, h3, _⟩ := h; exact ⟨g, h1, h2, blk_lt h3⟩
end
theorem row_form' {K : Nat → Prop} {w : World} {s : Value} {c : Nat → Option (List Value)} (h : RowS K w s c) : ∃ A n cp, s = .slice A n cp := by
  obtain ⟨A, cp, rfl⟩ := h.1.form; exact ⟨_, _, _, rfl⟩
theorem mem_grp {ck : ByteArray → Nat} {i : Nat} {L : List Pr} {e : Pr} : e ∈ grp ck i L ↔ e ∈ L ∧ ck e.1 = i := by simp [grp]
theorem lkp_grp (ck : ByteArray → Nat) (L : List Pr) (k : ByteArray) : lkp (grp ck (ck k) L) k = lkp L k := by
  unfold grp
  rw [lkp_filter (fun a => decide (ck a = ck k)) k]
  simp
theorem Srt.grp {L : List Pr} (h : Srt L) (ck : ByteArray → Nat) (i : Nat) : Srt (grp ck i L) := h.filter _
theorem ins_grp {L : List Pr} (h : Srt L) (ck : ByteArray → Nat) (k : ByteArray) (x : Int) (i : Nat) : grp ck i (ins L k x) = if ck k = i then ins (grp ck i L) k x else grp ck i L := by
  have := ins_filter h k x (fun a => decide (ck a = i))
  simp only [decide_eq_true_eq] at this
  exact this
theorem del_grp {L : List Pr} (h : Srt L) (ck : ByteArray → Nat) (k : ByteArray) (i : Nat) : grp ck i (del L k) = if ck k = i then del (grp ck i L) k else grp ck i L := by
  have := del_filter h k (fun a => decide (ck a = i))
  simp only [decide_eq_true_eq] at this
  exact this
end Go.Proofs.YtnegblckbomgdaaDoor.Ht
end
section
namespace Go.Proofs.YtnegblckbomgdaaDoor.Ht
open Go Go.RowKit Go.Proofs.YtnegblckbomgdaaDoor.Mem Go.Proofs.YtnegblckbomgdaaDoor.PA Go.Proofs.YtnegblckbomgdaaDoorW.PrintWords
attribute [local go_sem ↓] Go.wp_at_zero Go.wp_at_succ
def ordB (a b : ByteArray) : Int := if klt a b = true then -1 else if klt b a = true then 1 else 0
theorem ordB_neg {a b : ByteArray} : (ordB a b < 0) ↔ klt a b = true := by
  unfold ordB
  cases klt a b <;> cases klt b a <;> simp
theorem ordB_zero {a b : ByteArray} : (ordB a b = 0) ↔ a = b := by
  constructor
  · intro h
    unfold ordB at h
    split at h
    · omega
    · split at h
      · omega
      · exact klt_tri (by simpa using ‹¬ klt a b = true›) (by simpa using ‹¬ klt b a = true›)
  · rintro rfl; simp [ordB, klt_self]
theorem qorder_c (a b : ByteArray) (w : World) : Calls Tryd.prog 90 #[.string a, .string b] w (Ret (fun v _ => v = .int .i64 (ordB a b)) w) := by
  have hf : quote_Order.f a b = some (ordB a b) := by
    unfold quote_Order.f ordB klt
    split
    · rfl
    · split <;> rfl
  refine (quote_Order.calls a b _ w hf).mono ?_
  rintro e w' ⟨rfl, hD⟩
  exact ⟨_, rfl, rfl, hD.below⟩
set_option maxHeartbeats 1000000 in
theorem cmp_c (a b : ByteArray) (x : Int) (w : World) : Calls Tryd.prog 109 #[.agg #[.string a, .int .i64 x], .string b] w (Ret (fun v _ => v = .int .i64 (ordB a b)) w) := by
  have HQ := Lib.hid (fun V => qorder_c a b V)
  go_enter Tryd.func109, Tryd.ntmps109
  go_wp2_with (go_at_call 90; ((with_reducible refine (HQ.out _).mono ?_); rintro e w1 ⟨v, rfl, rfl, hb1⟩))
  go_returns
  exact ⟨_, rfl, rfl, below_trans ((Below.refl _ _).alloc (Nat.le_refl _) _) hb1⟩
def BinI (w : World) (n r k : Nat) (v9 v10 : Value) (wr : World) : Prop := ∃ lo hi : Nat, v9 = .int .i64 (lo : Int) ∧ v10 = .int .i64 (hi : Int) ∧ hi - lo ≤ k ∧ lo ≤ r ∧ r ≤ hi ∧ hi ≤ n ∧ Below w.heap.size w wr
set_option maxRecDepth 100000 in
set_option maxHeartbeats 8000000 in
theorem bin_c (K : Nat → Prop) (L : List Pr) (hS : Srt L) (hn : L.length ≤ 1000000) (s : Value) (k : ByteArray) (w : World) (h : SlK 2 K w s L.length (prs L)) :
    Calls Tryd.prog 108 #[s, .string k, .func (.func 109) #[] #[]] w (Ret (fun v _ => v = .tuple #[.int .i64 (rnk L k : Int), .bool (lkp L k).isSome]) w) := by
  obtain ⟨A, cp, rfl⟩ := h.form
  obtain ⟨n, hn'⟩ : ∃ n, n = L.length := ⟨_, rfl⟩
  obtain ⟨r, hr⟩ : ∃ r, r = rnk L k := ⟨_, rfl⟩
  have hrn : r ≤ n := by rw [hr, hn']; exact rnk_le _ _
  have hnI : (n : Int) ≤ 1000000 := by omega
  have hAd : 0 < n → ∃ g, A = some ⟨g, 0, none⟩ ∧ ∀ (i : Nat) (e : Pr), L[i]? = some e → w.cell? ⟨g, i * 2, none⟩ = some (.string e.1) ∧ w.cell? ⟨g, i * 2 + 1, none⟩ = some (.int .i64 e.2) := fun hp => by
    obtain ⟨g, e, -, hc⟩ := h.addr (by omega)
    exact ⟨g, e, fun i e' he => ⟨hc _ _ (prs_get L i e' he).1, hc _ _ (prs_get L i e' he).2⟩⟩
  have hcp := h.cap
  rw [← hn'] at hcp
  rw [← hr, ← hn']
  have HLn := Lib.hid hn'
  have HAd := Lib.hid hAd; have HS := Lib.hid hS; have HR := Lib.hid hr
  clear hAd hS h hn' hr hn
  go_enter Tryd.func108, Tryd.ntmps108
  go_wp2_with fail
  go_loopg [9, 10] n (fun k v9 v10 wr => Aside (BinI w n r k v9 v10 wr))
  case atStart =>
    show BinI _ _ _ _ _ _ _
    exact ⟨0, n, rfl, rfl, by omega, by omega, hrn, Nat.le_refl _, Below.refl _ _⟩
  case round =>
    obtain ⟨lo, hi, rfl, rfl, hk, h1, h2, h3, hB⟩ := hrel.out
    clear hrel
    by_cases hlt : lo < hi
    · obtain ⟨m, hm⟩ : ∃ m, m = (lo + hi) / 2 := ⟨_, rfl⟩
      have hml : lo ≤ m := by omega
      have hmh : m < hi := by omega
      have hltI : (lo : Int) < (hi : Int) := by omega
      obtain ⟨⟨ek, ex⟩, he⟩ : ∃ e, L[m]? = some e := ⟨_, List.getElem?_eq_getElem (by have := HLn.out; omega)⟩
      obtain ⟨g, rfl, hc⟩ := HAd.out (by omega)
      obtain ⟨c0, c1⟩ := hc m _ he
      have k0 := cell_below c0 hB
      have k1 := cell_below c1 hB
      have hmid : ((lo : Int) + (hi : Int)) / 2 = (m : Int) := by omega
      have hmn : (m : Int) < (n : Int) := by omega
      have hs : (lo : Int) + (hi : Int) ≤ 2000000 := by omega
      have hsp := rnk_lt HS.out he (k := k)
      rw [← HR.out] at hsp
      have hCM := fun V => cmp_c ek k ex V
      have HCM := Lib.hid hCM
      obtain ⟨o, ho⟩ : ∃ o, o = ordB ek k := ⟨_, rfl⟩
      rw [← ho] at HCM
      have hoi : o < 0 ↔ m < r := by rw [ho, ordB_neg]; exact hsp
      have HM := Lib.hid hm; have HO := Lib.hid hoi
      clear hCM ho hoi hm hsp c0 c1 hc he
      obtain ⟨gk, rfl⟩ : ∃ g, gk = g + 1 := ⟨gk - 1, by omega⟩
      by_cases hr' : m < r
      · have ho0 : o < 0 := HO.out.2 hr'
        go_wp2_with (first | (go_at_call 109; ((with_reducible refine (HCM.out _).mono ?_); rintro e w1 ⟨v, rfl, rfl, hb1⟩)))
        go_roundg gk
        case measure => omega
        case rel =>
          show BinI _ _ _ _ _ _ _
          exact ⟨m + 1, hi, by first | rfl | (push_cast; rfl), rfl, by have := HM.out; omega, by omega, h2, h3, below_trans hB hb1⟩
      · have ho0 : 0 ≤ o := by have := HO.out; omega
        go_wp2_with (first | (go_at_call 109; ((with_reducible refine (HCM.out _).mono ?_); rintro e w1 ⟨v, rfl, rfl, hb1⟩)))
        go_roundg gk
        case measure => omega
        case rel =>
          show BinI _ _ _ _ _ _ _
          exact ⟨lo, m, rfl, rfl, by have := HM.out; omega, h1, by omega, by omega, below_trans hB hb1⟩
    · obtain rfl : hi = lo := by omega
      obtain rfl : r = hi := by omega
      clear h1 h2 hk
      by_cases hrn' : r < n
      · have hrI : (r : Int) < (n : Int) := by omega
        obtain ⟨⟨ek, ex⟩, he⟩ : ∃ e, L[r]? = some e := ⟨_, List.getElem?_eq_getElem (by have := HLn.out; omega)⟩
        obtain ⟨g, rfl, hc⟩ := HAd.out (by omega)
        obtain ⟨c0, c1⟩ := hc r _ he
        have k0 := cell_below c0 hB
        have k1 := cell_below c1 hB
        have hhit := rnk_hit HS.out (k := k)
        rw [← HR.out, he] at hhit
        have HCM := Lib.hid (fun V => cmp_c ek k ex V)
        obtain ⟨o, ho⟩ : ∃ o, o = ordB ek k := ⟨_, rfl⟩
        rw [← ho] at HCM
        have hoi : (o == 0) = (lkp L k).isSome := by
          have h0 := ordB_zero (a := ek) (b := k)
          rw [← ho] at h0
          cases hl : lkp L k with
          | none =>
            rw [hl] at hhit
            have : ¬ ek = k := fun e => hhit.1 ⟨_, rfl, e⟩ rfl
            simp [h0, this]
          | some x =>
            rw [hl] at hhit
            obtain ⟨e', e1, e2⟩ := hhit.2 (by simp)
            cases e1
            simpa using h0.2 e2
        have HO := Lib.hid hoi
        clear hoi ho hhit c0 c1 hc he
        go_wp2_with (first | (go_at_call 109; ((with_reducible refine (HCM.out _).mono ?_); rintro e w1 ⟨v, rfl, rfl, hb1⟩)))
        go_returns
        exact ⟨_, rfl, congrArg (fun b => Value.tuple #[.int .i64 (r : Int), .bool b]) HO.out, below_trans hB hb1⟩
      · obtain rfl : r = n := by omega
        have hnone : (lkp L k).isSome = false := by
          cases hl : lkp L k with
          | none => rfl
          | some x =>
            have := rnk_hit HS.out (k := k)
            rw [hl] at this
            obtain ⟨e, he, -⟩ := this.2 (by simp)
            have hlt := (List.getElem?_eq_some_iff.1 he).1
            have := HR.out; have := HLn.out; omega
        have HO := Lib.hid hnone; clear hnone
        have hnn : ¬ r < r := Nat.lt_irrefl _
        go_wp2_with fail
        go_returns
        exact ⟨_, rfl, (congrArg (fun b => Value.tuple #[.int .i64 (r : Int), .bool b]) HO.out).symm, hB⟩
theorem find_c (K : Nat → Prop) (L : List Pr) (hS : Srt L) (hn : L.length ≤ 1000000) (s : Value) (k : ByteArray) (w : World) (h : SlK 2 K w s L.length (prs L)) :
    Calls Tryd.prog 79 #[s, .string k] w (Ret (fun v _ => v = .tuple #[.int .i64 (rnk L k : Int), .bool (lkp L k).isSome]) w) := by
  obtain ⟨A, cp, rfl⟩ := h.form
  have HB := Lib.hid (fun V (hw : Below w.heap.size w V) => bin_c K L hS hn _ k V (h.below hw))
  generalize rnk L k = r at HB ⊢
  generalize (lkp L k).isSome = o at HB ⊢
  clear hS hn h
  go_enter Tryd.func79, Tryd.ntmps79
  go_wp2_with (go_at_call 108; ((with_reducible refine (HB.out _ (Below.refl _ _)).mono ?_); rintro e w1 ⟨v, rfl, rfl, hb1⟩))
  go_returns
  exact ⟨_, rfl, rfl, hb1⟩
end Go.Proofs.YtnegblckbomgdaaDoor.Ht
end
section
namespace Go.Proofs.YtnegblckbomgdaaDoor.Ht
open Go Go.RowKit Go.Proofs.YtnegblckbomgdaaDoor.Mem Go.Proofs.YtnegblckbomgdaaDoor.PA Go.Proofs.YtnegblckbomgdaaDoorW.PrintWords Go.Proofs.YtnegblckbomgdaaDoor.U64
attribute [local go_sem ↓] Go.wp_at_zero Go.wp_at_succ
def Sm (L : List Pr) : Prop := ∀ e ∈ L, e.1.size ≤ 1000000
abbrev mapv (c : Cf) (n : Nat) (p : Option Addr) : Value := .agg #[.int .u64 (U c.1), .int .i64 c.2, .int .i64 (n : Int), .pointer p]
def MRep (c : Cf) (K : Nat → Prop) (w : World) (p : Option Addr) (L : List Pr) : Prop := (p = none ∧ L = []) ∨ HRep c K w 13 p L
theorem MRep.keep {c : Cf} {K K' : Nat → Prop} {w w' : World} {p : Option Addr} {L : List Pr} (hK : ∀ b, K b → b < w.heap.size → K' b) (hb : ∀ b, K b → b < w.heap.size → w'.heap[b]? = w.heap[b]?) (h : MRep c K w p L) : MRep c K' w' p L :=
  h.elim Or.inl fun h => Or.inr (h.keep hK hb)
theorem MRep.below {c : Cf} {K : Nat → Prop} {w w' : World} {p : Option Addr} {L : List Pr} (h : MRep c K w p L) (hb : Below w.heap.size w w') : MRep c K w' p L := h.keep (fun _ h _ => h) (fun b _ hlt => hb.block b hlt)
theorem MRep.mono {c : Cf} {K K' : Nat → Prop} {w : World} {p : Option Addr} {L : List Pr} (h : MRep c K w p L) (hK : ∀ b, K b → K' b) : MRep c K' w p L := h.keep (fun b h _ => hK b h) (fun _ _ _ => rfl)
theorem MRep.bound {c : Cf} {K : Nat → Prop} {w : World} {p : Option Addr} {L : List Pr} (h : MRep c K w p L) : MRep c (fun b => K b ∧ b < w.heap.size) w p L := h.keep (fun _ h hl => ⟨h, hl⟩) (fun _ _ _ => rfl)
def MapV (c : Cf) (K : Nat → Prop) (w : World) (v : Value) (L : List Pr) : Prop := ∃ p, v = mapv c L.length p ∧ MRep c K w p L ∧ Srt L ∧ Sm L
theorem MapV.keep {c : Cf} {K K' : Nat → Prop} {w w' : World} {v : Value} {L : List Pr} (hK : ∀ b, K b → b < w.heap.size → K' b) (hb : ∀ b, K b → b < w.heap.size → w'.heap[b]? = w.heap[b]?) (h : MapV c K w v L) : MapV c K' w' v L := by
  obtain ⟨p, h1, h2, h3⟩ := h
  exact ⟨p, h1, h2.keep hK hb, h3⟩
theorem MapV.below {c : Cf} {K : Nat → Prop} {w w' : World} {v : Value} {L : List Pr} (h : MapV c K w v L) (hb : Below w.heap.size w w') : MapV c K w' v L := h.keep (fun _ h _ => h) (fun b _ hlt => hb.block b hlt)
theorem MapV.mono {c : Cf} {K K' : Nat → Prop} {w : World} {v : Value} {L : List Pr} (h : MapV c K w v L) (hK : ∀ b, K b → K' b) : MapV c K' w v L := h.keep (fun b h _ => hK b h) (fun _ _ _ => rfl)
theorem MapV.bound {c : Cf} {K : Nat → Prop} {w : World} {v : Value} {L : List Pr} (h : MapV c K w v L) : MapV c (fun b => K b ∧ b < w.heap.size) w v L := h.keep (fun _ h hl => ⟨h, hl⟩) (fun _ _ _ => rfl)
theorem Sm.grp {L : List Pr} (h : Sm L) (ck : ByteArray → Nat) (i : Nat) : Sm (grp ck i L) := fun e he => h e (mem_grp.1 he).1
theorem Sm.ins {L : List Pr} (h : Sm L) (k : ByteArray) (x : Int) (hk : k.size ≤ 1000000) : Sm (ins L k x) := by
  intro e he
  unfold Ht.ins at he
  rcases List.mem_append.1 he with he | he
  · exact h e (mem_lo.1 he).1
  · rcases List.mem_cons.1 he with rfl | he
    · exact hk
    · exact h e (mem_hi.1 he).1
theorem Sm.del {L : List Pr} (h : Sm L) (k : ByteArray) : Sm (del L k) := fun e he => h e (List.mem_filter.1 he).1
abbrev got (L : List Pr) (k : ByteArray) : Value := .tuple #[.int .i64 ((lkp L k).getD 0), .bool (lkp L k).isSome]
theorem str_ne {a b : ByteArray} (h : ¬ a = b) : (a.toList == b.toList) = false := by
  rw [beq_eq_false_iff_ne]
  intro e
  rw [ByteArray.toList_eq, ByteArray.toList_eq] at e
  exact h (Bs.data_inj e)
theorem heap_new_d (w : World) (o : Obj) : (w.alloc o).drew.heap[w.heap.size]? = some o := heap_alloc_new w o
set_option maxRecDepth 100000 in
set_option maxHeartbeats 2000000 in
theorem mget_nil (c : Cf) (n : Nat) (k : ByteArray) (hk : k.size ≤ 1000000) (w : World) : Calls Tryd.prog 27 #[mapv c n none, .string k] w (Ret (fun v _ => v = got [] k) w) := by
  obtain ⟨seed, bits⟩ := c
  have HS := Lib.hid (fun V => sum_c (seed, bits) n none k (by omega) V)
  generalize U (hsh (seed, bits) k) = y at HS
  change Calls Tryd.prog 27 #[.agg #[.int .u64 (U seed), .int .i64 bits, .int .i64 (n : Int), .pointer none], .string k] w _
  generalize U seed = x at HS ⊢
  clear hk
  go_enter Tryd.func27, Tryd.ntmps27
  have BA : (w.alloc _).heap[w.heap.size]? = _ := blk_new w (.cells #[.int .u64 x, .int .i64 bits, .int .i64 n, .pointer none] MT)
  obtain ⟨⟨a0, a1, a2, a3⟩, -⟩ := box4 BA
  go_wp2_with fail
  go_region_held3 (fun w' => w'.cell? ⟨w.heap.size, 0, none⟩ = some (.int .u64 x) ∧ w'.cell? ⟨w.heap.size, 1, none⟩ = some (.int .i64 bits) ∧ w'.cell? ⟨w.heap.size, 2, none⟩ = some (.int .i64 n) ∧ w'.cell? ⟨w.heap.size, 3, none⟩ = some (.pointer none))
    (first | (go_keep; done) | (refine ⟨?_, ?_, ?_, ?_⟩ <;> first | (with_reducible assumption) | (with_reducible exact cell_below a0 (by assumption)) | (with_reducible exact cell_below a1 (by assumption)) | (with_reducible exact cell_below a2 (by assumption)) | (with_reducible exact cell_below a3 (by assumption)) | (go_keep; done)))
    (first
      | (go_at_call 33; (with_reducible refine (HS.out _).mono ?_); rintro e w1 ⟨v, rfl, rfl, hb1⟩; have hb1' := below_trans (w1 := World.drew _) (Below.refl _ _).drew hb1)
      | fail)
  go_wp2_with fail
  go_loopg [8, 9] 0 (fun k v8 v9 wr => Aside (v8 = .pointer none ∧ v9 = .int .i64 0 ∧ Below w.heap.size w wr))
  case atStart =>
    show _ ∧ _ ∧ _
    exact ⟨rfl, rfl, below_trans ((Below.refl _ _).alloc (Nat.le_refl _) _) hb1'⟩
  case round =>
    obtain ⟨rfl, rfl, hB⟩ := hrel.out
    clear hrel
    go_wp2_with fail
    go_returns
    exact ⟨_, rfl, rfl, hB⟩
abbrev slv (k : ByteArray) (x : Int) (q : Option Addr) (b : Bool) : Value := .tuple #[.agg #[.string k, .int .i64 x, .pointer q], .bool b]
def GetsV (g : Nat) (b : Nat) (s : Value) (i : Nat) (w : World) (r : Value) : Prop := ∀ V, Below w.heap.size w V → Calls Tryd.prog 77 #[.agg #[.int .u32 (b : Int), s], .int .i64 (i : Int)] V (Ret (fun v _ => v = r) V)
theorem node_get (c : Cf) (K : Nat → Prop) (w : World) (d l : Nat) (p : Option Addr) (M : List Pr) (k : ByteArray) (hM : HRep c K w (d + 1) p M) (hl : 12 - d = l) :
    ∃ (g b i : Nat) (A : Option Addr) (n cp : Nat), p = some ⟨g, 0, none⟩ ∧ K g ∧ w.heap[g]? = some (.cells #[.int .u32 (b : Int), .slice A n cp, .slice none 0 0] NT (0, 0)) ∧ i < 32 ∧ i = chk c l k ∧
      ((grp (chk c l) i M = [] ∧ GetsV g b (.slice A n cp) i w (slv ⟨#[]⟩ 0 none false)) ∨
       (∃ e, grp (chk c l) i M = [e] ∧ GetsV g b (.slice A n cp) i w (slv e.1 e.2 none true)) ∨
       (∃ q, 2 ≤ (grp (chk c l) i M).length ∧ HRep c K w d q (grp (chk c l) i M) ∧ GetsV g b (.slice A n cp) i w (slv ⟨#[]⟩ 0 q true))) := by
  obtain ⟨g, s, q, rfl, hKg, hg, hrow, hkids⟩ := hM
  rw [hl] at hg hrow hkids
  obtain ⟨A, n, cp, rfl⟩ := row_form' hrow
  refine ⟨g, _, chk c l k, A, n, cp, rfl, hKg, hg, chk_lt _ _ _, rfl, ?_⟩
  have hcx : conts c l M q (chk c l k) = slotOf (grp (chk c l) (chk c l k) M) (q (chk c l k)) := rfl
  have hk := hkids (chk c l k) (chk_lt _ _ _)
  generalize grp (chk c l) (chk c l k) M = G at hcx hk ⊢
  match G with
  | [] => exact Or.inl ⟨rfl, fun V hw => get_none _ _ _ rfl (chk_lt _ _ _) _ ⟨_, _, _, rfl⟩ V hcx⟩
  | [e] => exact Or.inr (Or.inl ⟨e, rfl, fun V hw => get_some K _ _ _ rfl (chk_lt _ _ _) _ _ _ _ V (hrow.below hw) hcx⟩)
  | e1 :: e2 :: r => exact Or.inr (Or.inr ⟨_, by simp, hk (by simp), fun V hw => get_some K _ _ _ rfl (chk_lt _ _ _) _ _ _ _ V (hrow.below hw) hcx⟩)
def GetI (c : Cf) (K : Nat → Prop) (w : World) (L : List Pr) (k : ByteArray) (gk : Nat) (v8 v9 : Value) (wr : World) : Prop :=
  ∃ (l : Nat) (p : Option Addr) (M : List Pr), v8 = .pointer p ∧ v9 = .int .i64 (l : Int) ∧ l + gk = 13 ∧ HRep c K wr gk p M ∧ lkp M k = lkp L k ∧ Srt M ∧ M.length ≤ L.length ∧ Below w.heap.size w wr
set_option maxRecDepth 100000 in
set_option maxHeartbeats 8000000 in
theorem mget_some (c : Cf) (K : Nat → Prop) (n : Nat) (p : Option Addr) (L : List Pr) (k : ByteArray) (hk : k.size ≤ 1000000) (w : World) (h : HRep c K w 13 p L) (hS : Srt L) (hn : L.length ≤ 1000000) :
    Calls Tryd.prog 27 #[mapv c n p, .string k] w (Ret (fun v _ => v = got L k) w) := by
  have HS := Lib.hid (fun V => sum_c c n p k (by omega) V)
  have HCK := Lib.hid (fun (l : Nat) (hl : l ≤ 12) V => chunk_c c k l hl V)
  obtain ⟨y, hy⟩ : ∃ y, y = U (hsh c k) := ⟨_, rfl⟩
  rw [← hy] at HS HCK
  obtain ⟨x, hx⟩ : ∃ x, x = U c.1 := ⟨_, rfl⟩
  obtain ⟨bits, hbits⟩ : ∃ x, x = c.2 := ⟨_, rfl⟩
  change Calls Tryd.prog 27 #[.agg #[.int .u64 (U c.1), .int .i64 c.2, .int .i64 (n : Int), .pointer p], .string k] w _
  rw [← hx, ← hbits] at HS ⊢
  have H := Lib.hid h; have HSR := Lib.hid hS; have HN := Lib.hid hn
  clear hk hy hx hbits h hS hn
  go_enter Tryd.func27, Tryd.ntmps27
  have BA : (w.alloc _).heap[w.heap.size]? = _ := blk_new w (.cells #[.int .u64 x, .int .i64 bits, .int .i64 n, .pointer p] MT)
  obtain ⟨⟨a0, a1, a2, a3⟩, -⟩ := box4 BA
  go_wp2_with fail
  go_region_held3 (fun w' => w'.cell? ⟨w.heap.size, 0, none⟩ = some (.int .u64 x) ∧ w'.cell? ⟨w.heap.size, 1, none⟩ = some (.int .i64 bits) ∧ w'.cell? ⟨w.heap.size, 2, none⟩ = some (.int .i64 n) ∧ w'.cell? ⟨w.heap.size, 3, none⟩ = some (.pointer p))
    (first | (go_keep; done) | (refine ⟨?_, ?_, ?_, ?_⟩ <;> first | (with_reducible assumption) | (with_reducible exact cell_below a0 (by assumption)) | (with_reducible exact cell_below a1 (by assumption)) | (with_reducible exact cell_below a2 (by assumption)) | (with_reducible exact cell_below a3 (by assumption)) | (go_keep; done)))
    (first
      | (go_at_call 33; (with_reducible refine (HS.out _).mono ?_); rintro e w1 ⟨v, rfl, rfl, hb1⟩; have hb1' := below_trans (w1 := World.drew _) (Below.refl _ _).drew hb1)
      | fail)
  clear a0 a1 a2 a3
  go_wp2_with fail
  go_loopg [8, 9] 13 (fun gk v8 v9 wr => Aside (GetI c K w L k gk v8 v9 wr))
  case atStart =>
    show GetI _ _ _ _ _ _ _ _ _
    have hB : Below w.heap.size w w1 := below_trans ((Below.refl _ _).alloc (Nat.le_refl _) _) hb1'
    exact ⟨0, p, L, rfl, rfl, rfl, H.out.below hB, rfl, HSR.out, Nat.le_refl _, hB⟩
  case round =>
    obtain ⟨l, p, M, rfl, rfl, hl, hM, hlk, hSM, hML, hB⟩ := hrel.out
    clear hrel hb1 hb1' BA
    cases gk with
    | zero =>
      obtain rfl : l = 13 := by omega
      obtain ⟨g, s, rfl, hKg, hg, hsl⟩ := hM
      obtain ⟨A, cp, rfl⟩ := hsl.form
      obtain ⟨m, hm⟩ : ∃ m, m = M.length := ⟨_, rfl⟩
      have HF := Lib.hid (fun V (hw : Below wr.heap.size wr V) => find_c K M hSM (by have := HN.out; omega) _ k V (hsl.below hw))
      rw [← hm] at HF hg
      obtain ⟨-, k2⟩ : True ∧ wr.cell? ⟨g, 2, none⟩ = some (.slice A m cp) := ⟨trivial, blk_cell hg 2⟩
      obtain ⟨r, hr⟩ : ∃ r, r = rnk M k := ⟨_, rfl⟩
      rw [← hr] at HF
      cases hlm : lkp M k with
      | none =>
        rw [hlm] at HF hlk
        have HGL := Lib.hid hlk; have HB := Lib.hid hB
        clear hlk hm hr hlm hsl hg hB hSM hML hKg hl
        go_wp2_with (first | (go_at_call 79; ((with_reducible refine (HF.out _ (Below.refl _ _)).mono ?_); rintro e w3 ⟨v, rfl, rfl, hb3⟩)))
        go_returns
        refine ⟨_, rfl, ?_, below_trans HB.out hb3⟩
        show Value.tuple #[_, _] = Value.tuple #[_, _]
        rw [← HGL.out]; rfl
      | some z =>
        have hget := get_rnk hSM hlm
        have hrm : r < m := by rw [hr, hm]; exact (List.getElem?_eq_some_iff.1 hget).1
        obtain ⟨gl, rfl, -, hc⟩ := hsl.addr (by omega)
        have c1 := hc _ _ (prs_get M _ _ hget).2
        rw [← hr] at c1
        rw [hlm] at HF hlk
        have HGL := Lib.hid hlk; have HB := Lib.hid hB
        have hrI : (r : Int) < (m : Int) := by omega
        have hr0 : (0 : Int) ≤ (r : Int) := by omega
        clear hlk hm hr hlm hsl hg hB hSM hML hKg hl hc hget
        go_wp2_with (first | (go_at_call 79; ((with_reducible refine (HF.out _ (Below.refl _ _)).mono ?_); rintro e w3 ⟨v, rfl, rfl, hb3⟩; have k23 := cell_below k2 hb3; have c13 := cell_below c1 hb3)))
        go_returns
        refine ⟨_, rfl, ?_, below_trans HB.out hb3⟩
        show Value.tuple #[_, _] = Value.tuple #[_, _]
        rw [← HGL.out]; rfl
    | succ gk =>
      have hl12 : l ≤ 12 := by omega
      have hlv : 12 - gk = l := by omega
      obtain ⟨g, b, i, A, nn, cp, rfl, hKg, hg, hi32, hi, hcs⟩ := node_get c K wr gk l p M k hM hlv
      obtain ⟨⟨k0, k1, -⟩, -⟩ := box3 hg
      have hgl0 := blk_lt hg
      have ng0 : wr.heap.size ≠ g := by omega
      have HC := Lib.hid (fun V => HCK.out l hl12 V)
      rw [← hi] at HC
      have hgl : lkp (grp (chk c l) i M) k = lkp L k := by rw [hi, lkp_grp, hlk]
      have hlI : (l : Int) < 13 := by omega
      have HI := Lib.hid hi; have HSM := Lib.hid hSM
      have HB := Lib.hid hB
      clear hi hSM hlv hlk hg hM hB
      rcases hcs with ⟨hgr, hG⟩ | ⟨e, hgr, hG⟩ | ⟨q, hq2, hQ, hG⟩
      · rw [hgr] at hgl
        have HGL := Lib.hid hgl; clear hgl hgr
        have HG := Lib.hid (fun V (hw : Below wr.heap.size wr V) => hG V hw); clear hG
        go_wp2_with fail
        go_region_held3 (fun w' => w'.cell? ⟨g, 0, none⟩ = some (.int .u32 (b : Int)) ∧ w'.cell? ⟨g, 1, none⟩ = some (.slice A nn cp))
          (first | (go_keep; done) | (refine ⟨?_, ?_⟩ <;> first | (with_reducible assumption) | (with_reducible exact cell_below k0 (by assumption)) | (with_reducible exact cell_below k1 (by assumption)) | (go_keep; done)))
          (first
          | (go_at_call 78; (with_reducible refine (HC.out _).mono ?_); rintro e w1 ⟨v, rfl, rfl, hb1⟩; have hb1' : Below wr.heap.size wr w1 := below_trans (by first | exact (Below.refl _ _).drew | exact ((Below.refl _ _).alloc (Nat.le_refl _) _).drew | go_grown) hb1; have ng1 : w1.heap.size ≠ g := (by have := hb1'.size; omega); have k01 := cell_below k0 hb1'; have k11 := cell_below k1 hb1'; (first | (have B1 : w1.heap[wr.heap.size]? = some (.cells #[.string ⟨#[]⟩, .int .i64 0, .pointer none] ST (0, 0)) := blk_below (heap_new_d _ _) hb1; have b1 := (box3 B1).1; have f1 := (box3 B1).2; obtain ⟨b10, b11, b12⟩ := b1; obtain ⟨f10, f11, f12⟩ := f1) | skip))
          | (go_at_call 77; (with_reducible refine (HG.out _ ?_).mono ?_); (first | exact hb1' | exact hb1'.alloc hb1'.size _ | go_grown); rintro e w2 ⟨v, rfl, rfl, hb2⟩; have hb2' : Below w1.heap.size w1 w2 := below_trans (by first | exact Below.refl _ _ | exact (Below.refl _ _).alloc (Nat.le_refl _) _ | go_grown) hb2; have hb02 : Below wr.heap.size wr w2 := below_trans hb1' hb2'; have ng2 : w2.heap.size ≠ g := (by have := hb02.size; omega); have k02 := cell_below k0 hb02; have k12 := cell_below k1 hb02; (first | (have B2 : w2.heap[wr.heap.size]? = some (.cells #[.string ⟨#[]⟩, .int .i64 0, .pointer none] ST (0, 0)) := blk_below B1 hb2') | (have B2 : w2.heap[w1.heap.size]? = some (.cells #[.string ⟨#[]⟩, .int .i64 0, .pointer none] ST (0, 0)) := blk_below (blk_new _ _) hb2) | skip); (first | (have b2 := (box3 B2).1; have f2 := (box3 B2).2; obtain ⟨b20, b21, b22⟩ := b2; obtain ⟨f20, f21, f22⟩ := f2) | skip))
          | fail)
        all_goals
          go_wp2_with fail
          go_returns
          have hBW := below_trans HB.out hb02
          have hz0 := HB.out.size; have hz1 := hb1'.size
          refine ⟨_, rfl, ?_, by first | exact hBW.alloc hBW.size _ | exact below_put3 hBW (by omega) _ _ _⟩
          show got [] k = got L k
          show Value.tuple #[_, _] = Value.tuple #[_, _]
          rw [← HGL.out]
      · rw [hgr] at hgl
        obtain ⟨ek, ex⟩ := e
        have hse : lkp [(ek, ex)] k = if ek = k then some ex else none := by rw [lkp_cons]; rfl
        rw [hse] at hgl
        by_cases hek : ek = k
        · subst hek
          rw [if_pos rfl] at hgl
          have HGL := Lib.hid hgl; clear hgl hgr hse
          have HG := Lib.hid (fun V (hw : Below wr.heap.size wr V) => hG V hw); clear hG
          go_wp2_with fail
          go_region_held3 (fun w' => w'.cell? ⟨g, 0, none⟩ = some (.int .u32 (b : Int)) ∧ w'.cell? ⟨g, 1, none⟩ = some (.slice A nn cp))
            (first | (go_keep; done) | (refine ⟨?_, ?_⟩ <;> first | (with_reducible assumption) | (with_reducible exact cell_below k0 (by assumption)) | (with_reducible exact cell_below k1 (by assumption)) | (go_keep; done)))
            (first
            | (go_at_call 78; (with_reducible refine (HC.out _).mono ?_); rintro e w1 ⟨v, rfl, rfl, hb1⟩; have hb1' : Below wr.heap.size wr w1 := below_trans (by first | exact (Below.refl _ _).drew | exact ((Below.refl _ _).alloc (Nat.le_refl _) _).drew | go_grown) hb1; have ng1 : w1.heap.size ≠ g := (by have := hb1'.size; omega); have k01 := cell_below k0 hb1'; have k11 := cell_below k1 hb1'; (first | (have B1 : w1.heap[wr.heap.size]? = some (.cells #[.string ⟨#[]⟩, .int .i64 0, .pointer none] ST (0, 0)) := blk_below (heap_new_d _ _) hb1; have b1 := (box3 B1).1; have f1 := (box3 B1).2; obtain ⟨b10, b11, b12⟩ := b1; obtain ⟨f10, f11, f12⟩ := f1) | skip))
            | (go_at_call 77; (with_reducible refine (HG.out _ ?_).mono ?_); (first | exact hb1' | exact hb1'.alloc hb1'.size _ | go_grown); rintro e w2 ⟨v, rfl, rfl, hb2⟩; have hb2' : Below w1.heap.size w1 w2 := below_trans (by first | exact Below.refl _ _ | exact (Below.refl _ _).alloc (Nat.le_refl _) _ | go_grown) hb2; have hb02 : Below wr.heap.size wr w2 := below_trans hb1' hb2'; have ng2 : w2.heap.size ≠ g := (by have := hb02.size; omega); have k02 := cell_below k0 hb02; have k12 := cell_below k1 hb02; (first | (have B2 : w2.heap[wr.heap.size]? = some (.cells #[.string ⟨#[]⟩, .int .i64 0, .pointer none] ST (0, 0)) := blk_below B1 hb2') | (have B2 : w2.heap[w1.heap.size]? = some (.cells #[.string ⟨#[]⟩, .int .i64 0, .pointer none] ST (0, 0)) := blk_below (blk_new _ _) hb2) | skip); (first | (have b2 := (box3 B2).1; have f2 := (box3 B2).2; obtain ⟨b20, b21, b22⟩ := b2; obtain ⟨f20, f21, f22⟩ := f2) | skip))
            | fail)
          all_goals
            go_wp2_with fail
            go_returns
            have hBW := below_trans HB.out hb02
            have hz0 := HB.out.size; have hz1 := hb1'.size
            refine ⟨_, rfl, ?_, by first | exact hBW.alloc hBW.size _ | exact below_put3 hBW (by omega) _ _ _⟩
            show Value.tuple #[_, _] = Value.tuple #[_, _]
            rw [← HGL.out]; rfl
        · rw [if_neg hek] at hgl
          have hne := str_ne hek
          have HGL := Lib.hid hgl; clear hgl hgr hse hek
          have HG := Lib.hid (fun V (hw : Below wr.heap.size wr V) => hG V hw); clear hG
          go_wp2_with fail
          go_region_held3 (fun w' => w'.cell? ⟨g, 0, none⟩ = some (.int .u32 (b : Int)) ∧ w'.cell? ⟨g, 1, none⟩ = some (.slice A nn cp))
            (first | (go_keep; done) | (refine ⟨?_, ?_⟩ <;> first | (with_reducible assumption) | (with_reducible exact cell_below k0 (by assumption)) | (with_reducible exact cell_below k1 (by assumption)) | (go_keep; done)))
            (first
            | (go_at_call 78; (with_reducible refine (HC.out _).mono ?_); rintro e w1 ⟨v, rfl, rfl, hb1⟩; have hb1' : Below wr.heap.size wr w1 := below_trans (by first | exact (Below.refl _ _).drew | exact ((Below.refl _ _).alloc (Nat.le_refl _) _).drew | go_grown) hb1; have ng1 : w1.heap.size ≠ g := (by have := hb1'.size; omega); have k01 := cell_below k0 hb1'; have k11 := cell_below k1 hb1'; (first | (have B1 : w1.heap[wr.heap.size]? = some (.cells #[.string ⟨#[]⟩, .int .i64 0, .pointer none] ST (0, 0)) := blk_below (heap_new_d _ _) hb1; have b1 := (box3 B1).1; have f1 := (box3 B1).2; obtain ⟨b10, b11, b12⟩ := b1; obtain ⟨f10, f11, f12⟩ := f1) | skip))
            | (go_at_call 77; (with_reducible refine (HG.out _ ?_).mono ?_); (first | exact hb1' | exact hb1'.alloc hb1'.size _ | go_grown); rintro e w2 ⟨v, rfl, rfl, hb2⟩; have hb2' : Below w1.heap.size w1 w2 := below_trans (by first | exact Below.refl _ _ | exact (Below.refl _ _).alloc (Nat.le_refl _) _ | go_grown) hb2; have hb02 : Below wr.heap.size wr w2 := below_trans hb1' hb2'; have ng2 : w2.heap.size ≠ g := (by have := hb02.size; omega); have k02 := cell_below k0 hb02; have k12 := cell_below k1 hb02; (first | (have B2 : w2.heap[wr.heap.size]? = some (.cells #[.string ⟨#[]⟩, .int .i64 0, .pointer none] ST (0, 0)) := blk_below B1 hb2') | (have B2 : w2.heap[w1.heap.size]? = some (.cells #[.string ⟨#[]⟩, .int .i64 0, .pointer none] ST (0, 0)) := blk_below (blk_new _ _) hb2) | skip); (first | (have b2 := (box3 B2).1; have f2 := (box3 B2).2; obtain ⟨b20, b21, b22⟩ := b2; obtain ⟨f20, f21, f22⟩ := f2) | skip))
            | fail)
          all_goals
            go_wp2_with fail
            go_returns
            have hBW := below_trans HB.out hb02
            have hz0 := HB.out.size; have hz1 := hb1'.size
            refine ⟨_, rfl, ?_, by first | exact hBW.alloc hBW.size _ | exact below_put3 hBW (by omega) _ _ _⟩
            show Value.tuple #[_, _] = Value.tuple #[_, _]
            rw [← HGL.out]; rfl
      · obtain ⟨g', rfl, hKg', hgl'⟩ := hQ.ptr
        have HQ := Lib.hid hQ
        have HGL := Lib.hid hgl
        have hlen : (grp (chk c l) i M).length ≤ L.length := Nat.le_trans (List.length_filter_le _ _) hML
        have HLEN := Lib.hid hlen
        clear hgl hq2 hQ hlen hKg' hgl'
        have HG := Lib.hid (fun V (hw : Below wr.heap.size wr V) => hG V hw); clear hG
        go_wp2_with fail
        go_region_held3 (fun w' => w'.cell? ⟨g, 0, none⟩ = some (.int .u32 (b : Int)) ∧ w'.cell? ⟨g, 1, none⟩ = some (.slice A nn cp))
          (first | (go_keep; done) | (refine ⟨?_, ?_⟩ <;> first | (with_reducible assumption) | (with_reducible exact cell_below k0 (by assumption)) | (with_reducible exact cell_below k1 (by assumption)) | (go_keep; done)))
          (first
          | (go_at_call 78; (with_reducible refine (HC.out _).mono ?_); rintro e w1 ⟨v, rfl, rfl, hb1⟩; have hb1' : Below wr.heap.size wr w1 := below_trans (by first | exact (Below.refl _ _).drew | exact ((Below.refl _ _).alloc (Nat.le_refl _) _).drew | go_grown) hb1; have ng1 : w1.heap.size ≠ g := (by have := hb1'.size; omega); have k01 := cell_below k0 hb1'; have k11 := cell_below k1 hb1'; (first | (have B1 : w1.heap[wr.heap.size]? = some (.cells #[.string ⟨#[]⟩, .int .i64 0, .pointer none] ST (0, 0)) := blk_below (heap_new_d _ _) hb1; have b1 := (box3 B1).1; have f1 := (box3 B1).2; obtain ⟨b10, b11, b12⟩ := b1; obtain ⟨f10, f11, f12⟩ := f1) | skip))
          | (go_at_call 77; (with_reducible refine (HG.out _ ?_).mono ?_); (first | exact hb1' | exact hb1'.alloc hb1'.size _ | go_grown); rintro e w2 ⟨v, rfl, rfl, hb2⟩; have hb2' : Below w1.heap.size w1 w2 := below_trans (by first | exact Below.refl _ _ | exact (Below.refl _ _).alloc (Nat.le_refl _) _ | go_grown) hb2; have hb02 : Below wr.heap.size wr w2 := below_trans hb1' hb2'; have ng2 : w2.heap.size ≠ g := (by have := hb02.size; omega); have k02 := cell_below k0 hb02; have k12 := cell_below k1 hb02; (first | (have B2 : w2.heap[wr.heap.size]? = some (.cells #[.string ⟨#[]⟩, .int .i64 0, .pointer none] ST (0, 0)) := blk_below B1 hb2') | (have B2 : w2.heap[w1.heap.size]? = some (.cells #[.string ⟨#[]⟩, .int .i64 0, .pointer none] ST (0, 0)) := blk_below (blk_new _ _) hb2) | skip); (first | (have b2 := (box3 B2).1; have f2 := (box3 B2).2; obtain ⟨b20, b21, b22⟩ := b2; obtain ⟨f20, f21, f22⟩ := f2) | skip))
          | fail)
        all_goals
          go_wp2_with fail
          have hz0 := HB.out.size; have hz1 := hb1'.size
          go_roundg gk
          case measure => omega
          case rel =>
            show GetI _ _ _ _ _ _ _ _ _
            refine ⟨l + 1, _, _, rfl, by first | rfl | (push_cast; rfl), by omega, HQ.out.below ?_, HGL.out, HSM.out.grp _ _, HLEN.out, below_trans HB.out ?_⟩ <;> first | exact hb02.alloc hb02.size _ | exact below_put3 hb02 hz1 _ _ _ | exact below_put3 hb02 (Nat.le_refl _) _ _ _
theorem mget_c (c : Cf) (K : Nat → Prop) (v : Value) (L : List Pr) (k : ByteArray) (hk : k.size ≤ 1000000) (w : World) (h : MapV c K w v L) (hn : L.length ≤ 1000000) :
    Calls Tryd.prog 27 #[v, .string k] w (Ret (fun v _ => v = got L k) w) := by
  obtain ⟨p, rfl, hR, hS, -⟩ := h
  rcases hR with ⟨rfl, rfl⟩ | hR
  · exact mget_nil c _ k hk w
  · exact mget_some c K _ p L k hk w hR hS hn
end Go.Proofs.YtnegblckbomgdaaDoor.Ht
end
section
namespace Go.Proofs.YtnegblckbomgdaaDoor.Ht
open Go Go.RowKit Go.Proofs.YtnegblckbomgdaaDoor.Mem Go.Proofs.YtnegblckbomgdaaDoor.PA Go.Proofs.YtnegblckbomgdaaDoorW.PrintWords Go.Proofs.YtnegblckbomgdaaDoor.U64
attribute [local go_sem ↓] Go.wp_at_zero Go.wp_at_succ
def pl (a b : Pr) : List Pr := if klt a.1 b.1 = true then [a, b] else [b, a]
theorem pl_mem {a b e : Pr} (h : e ∈ pl a b) : e = a ∨ e = b := by
  unfold pl at h
  split at h <;> simp at h
  · exact h
  · exact h.symm
theorem pl_length (a b : Pr) : (pl a b).length = 2 := by unfold pl; split <;> rfl
theorem ins_one {a : Pr} {k : ByteArray} {x : Int} (h : ¬ a.1 = k) : ins [a] k x = pl a (k, x) := by
  unfold pl ins lo hi
  cases hk : klt a.1 k with
  | true => simp [hk, klt_asymm hk]
  | false =>
    have : klt k a.1 = true := by
      cases h2 : klt k a.1 with
      | true => rfl
      | false => exact absurd (klt_tri hk h2) h
    simp [hk, this]
theorem ins_same (a : Pr) (x : Int) : ins [a] a.1 x = [(a.1, x)] := by simp [ins, lo, hi, klt_self]
def noneC : Nat → Option (List Value) := fun _ => none
theorem bits_none : bitsN (has noneC) 32 = 0 := bitsN_zero.2 fun i _ => rfl
theorem rows_none (K : Nat → Prop) (w : World) : RowS K w (.slice none 0 0) noneC := by
  refine ⟨?_, fun i x h => by cases h⟩
  have h1 : cnt (has noneC) 32 = 0 := by decide
  have h2 : rowC noneC 0 32 = [] := by
    have := rowC_length noneC 3 (fun i x h => by cases h) 32
    rw [h1] at this
    exact List.eq_nil_of_length_eq_zero (by omega)
  rw [h1, h2]
  exact SlK.nil 3 K w
theorem slotOf_two {g : List Pr} (h : 2 ≤ g.length) (q : Option Addr) : slotOf g q = some [.string ⟨#[]⟩, .int .i64 0, .pointer q] := by
  match g, h with
  | _ :: _ :: _, _ => rfl
theorem conts_same (c : Cf) (l : Nat) (a b : Pr) (i : Nat) (q : Option Addr) (ha : chk c l a.1 = i) (hb : chk c l b.1 = i) : conts c l (pl a b) (fun _ => q) = put noneC i (some [.string ⟨#[]⟩, .int .i64 0, .pointer q]) := by
  have hall : grp (chk c l) i (pl a b) = pl a b := List.filter_eq_self.2 fun e he => by
    have := pl_mem he
    rcases this with rfl | rfl <;> simp [ha, hb]
  funext j
  unfold conts put
  by_cases h : j = i
  · subst h
    rw [if_pos rfl, hall]
    exact slotOf_two (by rw [pl_length]; exact Nat.le_refl _) q
  · rw [if_neg h]
    refine slotOf_none.2 (List.filter_eq_nil_iff.2 fun e he => ?_)
    have := pl_mem he
    have h' : ¬ i = j := fun e => h e.symm
    rcases this with rfl | rfl <;> simp [ha, hb, h']
theorem grp_same (c : Cf) (l : Nat) (a b : Pr) (i : Nat) (ha : chk c l a.1 = i) (hb : chk c l b.1 = i) (j : Nat) (hj : 2 ≤ (grp (chk c l) j (pl a b)).length) : grp (chk c l) j (pl a b) = pl a b := by
  have hm : ∀ e ∈ pl a b, chk c l e.1 = i := fun e he => by
    have := pl_mem he
    rcases this with rfl | rfl <;> assumption
  by_cases h : j = i
  · subst h
    exact List.filter_eq_self.2 fun e he => by simp [hm e he]
  · have : grp (chk c l) j (pl a b) = [] := by
      have h' : ¬ i = j := fun e => h e.symm
      exact List.filter_eq_nil_iff.2 fun e he => by simp [hm e he, h']
    rw [this] at hj; simp at hj
theorem conts_apart (c : Cf) (l : Nat) (a b : Pr) (i k : Nat) (q : Nat → Option Addr) (ha : chk c l a.1 = i) (hb : chk c l b.1 = k) (hik : ¬ i = k) :
    conts c l (pl a b) q = put (put noneC i (some [.string a.1, .int .i64 a.2, .pointer none])) k (some [.string b.1, .int .i64 b.2, .pointer none]) := by
  funext j
  have hg : grp (chk c l) j (pl a b) = if j = k then [b] else if j = i then [a] else [] := by
    unfold grp pl
    by_cases h1 : j = k
    · subst h1
      split <;> simp [ha, hb, hik]
    · by_cases h2 : j = i
      · subst h2
        have h1' : ¬ k = j := fun e => h1 e.symm
        split <;> simp [ha, hb, h1, h1']
      · have h1' : ¬ k = j := fun e => h1 e.symm
        have h2' : ¬ i = j := fun e => h2 e.symm
        split <;> simp [ha, hb, h1, h2, h1', h2']
  unfold conts put
  rw [hg]
  by_cases h1 : j = k
  · rw [if_pos h1, if_pos h1]; rfl
  · rw [if_neg h1, if_neg h1]
    by_cases h2 : j = i
    · rw [if_pos h2, if_pos h2]; rfl
    · rw [if_neg h2, if_neg h2]; rfl
theorem grp_apart (c : Cf) (l : Nat) (a b : Pr) (hik : ¬ chk c l a.1 = chk c l b.1) (j : Nat) : (grp (chk c l) j (pl a b)).length ≤ 1 := by
  unfold grp pl
  by_cases h1 : chk c l a.1 = j
  · have h2 : ¬ chk c l b.1 = j := fun e => hik (h1.trans e.symm)
    split <;> simp [h1, h2]
  · split <;> (by_cases h2 : chk c l b.1 = j <;> simp [h1, h2])
theorem node_of {c : Cf} {K : Nat → Prop} {w : World} {d g : Nat} {L : List Pr} {s : Value} {q : Nat → Option Addr} {cc : Nat → Option (List Value)} (l : Nat) (hl : 12 - d = l) (hc : cc = conts c l L q) (hg : w.heap[g]? = some (.cells #[.int .u32 (bitsN (has cc) 32 : Int), s, .slice none 0 0] NT (0, 0))) (hK : K g)
    (hr : RowS K w s cc) (hk : ∀ i, i < 32 → 2 ≤ (grp (chk c l) i L).length → HRep c K w d (q i) (grp (chk c l) i L)) : HRep c K w (d + 1) (some ⟨g, 0, none⟩) L := by
  subst hl hc
  exact ⟨g, s, q, rfl, hK, hg, hr, hk⟩
theorem rset_c (K : Nat → Prop) (cc : Nat → Option (List Value)) (b i : Nat) (hb : b = bitsN (has cc) 32) (hi : i < 32) (s : Value) (k : ByteArray) (x : Int) (q : Option Addr) (w : World) (h : RowS K w s cc) :
    Calls Tryd.prog 101 #[.agg #[.int .u32 (b : Int), s], .int .i64 (i : Int), .agg #[.string k, .int .i64 x, .pointer q]] w
      (Ret (fun v w' => ∃ (A : Option Addr) (n cp b' : Nat), v = .agg #[.int .u32 (b' : Int), .slice A n cp] ∧ b' = bitsN (has (put cc i (some [.string k, .int .i64 x, .pointer q]))) 32 ∧ RowS (New K w) w' (.slice A n cp) (put cc i (some [.string k, .int .i64 x, .pointer q]))) w) := by
  have H : Calls Tryd.prog 101 #[.agg #[.int .u32 (b : Int), s], .int .i64 (i : Int), .agg #[.string k, .int .i64 x, .pointer q]] w
      (Ret (fun v w' => ∃ s', v = .agg #[.int .u32 (bitsN (has (put cc i (some [.string k, .int .i64 x, .pointer q]))) 32 : Int), s'] ∧ RowS (New K w) w' s' (put cc i (some [.string k, .int .i64 x, .pointer q]))) w) := by
    cases hh : has cc i with
    | true => exact set_same K cc b i hb hi s k x q w h hh
    | false => exact set_more K cc b i hb hi s k x q w h hh
  refine H.mono ?_
  rintro e w' ⟨v, rfl, ⟨s', rfl, hr⟩, hb'⟩
  obtain ⟨A, n, cp, rfl⟩ := row_form' hr
  exact ⟨_, rfl, ⟨A, n, cp, _, rfl, rfl, hr⟩, hb'⟩
theorem leaf_rep (c : Cf) (X : World) (sz : Nat) (hs : X.heap.size = sz) (a b : Pr) : HRep c (fun t => sz ≤ t) ((X.alloc (.cells #[.string a.1, .int .i64 a.2, .string b.1, .int .i64 b.2] PT)).alloc (.cells #[.int .u32 0, .slice none 0 0, .slice (some ⟨sz, 0, none⟩) 2 2] NT)) 0 (some ⟨sz + 1, 0, none⟩) [a, b] := by
  subst hs
  refine ⟨_, _, rfl, Nat.le_succ _, heap_k1 X _ _, ?_⟩
  exact SlK.blk (cur := prs [a, b]) (t := PT) (blk_alloc (blk_new X _) _) (fun _ _ h => h) rfl (Nat.le_refl _) (by unfold maxLen; simp) (prs_one _) (Nat.le_refl _)
theorem below_put4 {w0 w : World} {g h : Nat} (hb : Below w0.heap.size w0 w) (hg : w0.heap.size ≤ g) (hh : w0.heap.size ≤ h) (a b c d : Value) : Below w0.heap.size w0 ((((w.setCell ⟨g, 0, none⟩ a).setCell ⟨g, 1, none⟩ b).setCell ⟨h, 0, none⟩ c).setCell ⟨h, 1, none⟩ d) :=
  below_put2 (below_put2 hb hg a b) hh c d
def ForkP (c : Cf) (d : Nat) : Prop := ∀ (n : Nat) (p : Option Addr) (l : Nat) (a b : Pr) (w : World), l + d = 13 → ¬ a.1 = b.1 → a.1.size ≤ 1000000 → b.1.size ≤ 1000000 →
  Calls Tryd.prog 100 #[.agg #[.int .u64 (U c.1), .int .i64 c.2, .int .i64 (n : Int), .pointer p], .int .i64 (l : Int), .agg #[.string a.1, .int .i64 a.2], .agg #[.string b.1, .int .i64 b.2]] w (Ret (fun v w' => ∃ q, v = .pointer q ∧ HRep c (Fresh w) w' d q (pl a b)) w)
set_option maxRecDepth 100000 in
set_option maxHeartbeats 4000000 in
theorem fork_leaf (c : Cf) : ForkP c 0 := by
  intro n p l a b w hl hne ha hb
  obtain rfl : l = 13 := by omega
  obtain ⟨x, hx⟩ : ∃ x, x = U c.1 := ⟨_, rfl⟩
  obtain ⟨bits, hbits⟩ : ∃ x, x = c.2 := ⟨_, rfl⟩
  obtain ⟨ak, ax⟩ := a
  obtain ⟨bk, bx⟩ := b
  change Calls Tryd.prog 100 #[.agg #[.int .u64 (U c.1), .int .i64 c.2, .int .i64 (n : Int), .pointer p], .int .i64 13, .agg #[.string ak, .int .i64 ax], .agg #[.string bk, .int .i64 bx]] w _
  rw [← hx, ← hbits]
  obtain ⟨o, ho⟩ : ∃ o, o = ordB ak bk := ⟨_, rfl⟩
  have HO := Lib.hid (fun V => qorder_c ak bk V)
  rw [← ho] at HO
  have hoi : (0 < o ↔ ¬ klt ak bk = true) := by
    have hn : ¬ ak = bk := hne
    have h0 := ordB_zero (a := ak) (b := bk)
    have h1 := ordB_neg (a := ak) (b := bk)
    rw [← ho] at h0 h1
    constructor
    · intro h2 h3; have := h1.2 h3; omega
    · intro h2
      rcases Int.lt_trichotomy o 0 with h3 | h3 | h3
      · exact absurd (h1.1 h3) h2
      · exact absurd (h0.1 h3) hn
      · exact h3
  have HOI := Lib.hid hoi
  clear hoi ho hx hbits ha hb hl
  go_enter Tryd.func100, Tryd.ntmps100
  have B1 : (((w.alloc _).alloc _).alloc _).heap[w.heap.size + 1]? = _ := blk_alloc (heap_k1 w (.cells #[.int .u64 x, .int .i64 bits, .int .i64 n, .pointer p] MT) (.cells #[.string ak, .int .i64 ax] PT)) (.cells #[.string bk, .int .i64 bx] PT)
  have B2 : (((w.alloc _).alloc _).alloc _).heap[w.heap.size + 1 + 1]? = _ := heap_k2 w (.cells #[.int .u64 x, .int .i64 bits, .int .i64 n, .pointer p] MT) (.cells #[.string ak, .int .i64 ax] PT) (.cells #[.string bk, .int .i64 bx] PT)
  have HB1 := Lib.hid B1; have HB2 := Lib.hid B2; clear B1 B2
  have HBW := Lib.hid (show Below w.heap.size w _ from (((Below.refl w.heap.size w).alloc (Nat.le_refl _) (.cells #[.int .u64 x, .int .i64 bits, .int .i64 n, .pointer p] MT)).alloc (by simp) (.cells #[.string ak, .int .i64 ax] PT)).alloc (by simp; omega) (.cells #[.string bk, .int .i64 bx] PT))
  by_cases ho : 0 < o
  · have HK := Lib.hid (HOI.out.1 ho)
    go_wp2_with (go_at_call 90; ((with_reducible refine (HO.out _).mono ?_); rintro e w1 ⟨v, rfl, rfl, hb1⟩; obtain ⟨⟨a0, a1⟩, fa0, fa1⟩ := box2 (blk_below HB1.out hb1); obtain ⟨⟨b0, b1⟩, fb0, fb1⟩ := box2 (blk_below HB2.out hb1); have HW1 := Lib.hid (below_trans HBW.out hb1)))
    go_returns
    have hs1 := HW1.out.size
    have e1 : pl (ak, ax) (bk, bx) = [(bk, bx), (ak, ax)] := if_neg HK.out
    have hb5 := below_put4 HW1.out (show w.heap.size ≤ w.heap.size + 1 by omega) (show w.heap.size ≤ w.heap.size + 1 + 1 by omega) (.string bk) (.int .i64 bx) (.string ak) (.int .i64 ax)
    refine ⟨_, rfl, ⟨_, rfl, ?_⟩, (hb5.alloc hb5.size _).alloc (by simp; omega) _⟩
    rw [e1]
    exact (leaf_rep c _ w1.heap.size (by simp [World.size_setCell]) (bk, bx) (ak, ax)).mono fun t ht => Nat.le_trans hs1 ht
  · have HK := Lib.hid (show klt ak bk = true by have := HOI.out; cases hk : klt ak bk with | true => rfl | false => exact absurd (this.2 (by simp [hk])) ho)
    have ho' : o ≤ 0 := by omega
    go_wp2_with (go_at_call 90; ((with_reducible refine (HO.out _).mono ?_); rintro e w1 ⟨v, rfl, rfl, hb1⟩; obtain ⟨⟨a0, a1⟩, fa0, fa1⟩ := box2 (blk_below HB1.out hb1); obtain ⟨⟨b0, b1⟩, fb0, fb1⟩ := box2 (blk_below HB2.out hb1); have HW1 := Lib.hid (below_trans HBW.out hb1)))
    go_returns
    have hs1 := HW1.out.size
    have e1 : pl (ak, ax) (bk, bx) = [(ak, ax), (bk, bx)] := if_pos HK.out
    refine ⟨_, rfl, ⟨_, rfl, ?_⟩, (HW1.out.alloc hs1 _).alloc (by simp; omega) _⟩
    rw [e1]
    exact (leaf_rep c _ w1.heap.size rfl (ak, ax) (bk, bx)).mono fun t ht => Nat.le_trans hs1 ht
set_option maxRecDepth 100000 in
set_option maxHeartbeats 8000000 in
theorem fork_inner (c : Cf) (d : Nat) (ih : ForkP c d) : ForkP c (d + 1) := by
  intro n p l a b w hl hne ha hb
  have hl12 : l ≤ 12 := by omega
  have hdl : 12 - d = l := by omega
  obtain ⟨i, hi⟩ : ∃ i, i = chk c l a.1 := ⟨_, rfl⟩
  obtain ⟨k, hk⟩ : ∃ i, i = chk c l b.1 := ⟨_, rfl⟩
  have hi32 : i < 32 := by rw [hi]; exact chk_lt _ _ _
  have hk32 : k < 32 := by rw [hk]; exact chk_lt _ _ _
  have HF := Lib.hid (fun V => ih n p (l + 1) a b V (by omega) hne ha hb)
  have HSa := Lib.hid (fun V => sum_c c n p a.1 (by omega) V)
  have HSb := Lib.hid (fun V => sum_c c n p b.1 (by omega) V)
  have HCa := Lib.hid (fun V => chunk_c c a.1 l hl12 V)
  have HCb := Lib.hid (fun V => chunk_c c b.1 l hl12 V)
  rw [← hi] at HCa
  rw [← hk] at HCb
  obtain ⟨ya, hya⟩ : ∃ y, y = U (hsh c a.1) := ⟨_, rfl⟩
  obtain ⟨yb, hyb⟩ : ∃ y, y = U (hsh c b.1) := ⟨_, rfl⟩
  rw [← hya] at HSa HCa
  rw [← hyb] at HSb HCb
  obtain ⟨x, hx⟩ : ∃ x, x = U c.1 := ⟨_, rfl⟩
  obtain ⟨bits, hbits⟩ : ∃ x, x = c.2 := ⟨_, rfl⟩
  have hlI : (l : Int) < 13 := by omega
  have hl13 : ((l : Int) == 13) = false := beq_false_of_ne (by omega)
  have HI := Lib.hid hi; have HKK := Lib.hid hk; have HDL := Lib.hid hdl; have HNE := Lib.hid hne
  obtain ⟨ak, ax⟩ := a
  obtain ⟨bk, bx⟩ := b
  change Calls Tryd.prog 100 #[.agg #[.int .u64 (U c.1), .int .i64 c.2, .int .i64 (n : Int), .pointer p], .int .i64 (l : Int), .agg #[.string ak, .int .i64 ax], .agg #[.string bk, .int .i64 bx]] w _
  dsimp only at HSa HSb HF
  rw [← hx, ← hbits] at HSa HSb HF ⊢
  rw [show ((l + 1 : Nat) : Int) = (l : Int) + 1 by push_cast; rfl] at HF
  clear hya hyb hx hbits hi hk hdl hne ha hb ih hl
  go_enter Tryd.func100, Tryd.ntmps100
  have B0 : (((w.alloc _).alloc _).alloc _).heap[w.heap.size]? = _ := blk_alloc (blk_alloc (blk_new w (.cells #[.int .u64 x, .int .i64 bits, .int .i64 n, .pointer p] MT)) (.cells #[.string ak, .int .i64 ax] PT)) (.cells #[.string bk, .int .i64 bx] PT)
  have B1 : (((w.alloc _).alloc _).alloc _).heap[w.heap.size + 1]? = _ := blk_alloc (heap_k1 w (.cells #[.int .u64 x, .int .i64 bits, .int .i64 n, .pointer p] MT) (.cells #[.string ak, .int .i64 ax] PT)) (.cells #[.string bk, .int .i64 bx] PT)
  have B2 : (((w.alloc _).alloc _).alloc _).heap[w.heap.size + 1 + 1]? = _ := heap_k2 w (.cells #[.int .u64 x, .int .i64 bits, .int .i64 n, .pointer p] MT) (.cells #[.string ak, .int .i64 ax] PT) (.cells #[.string bk, .int .i64 bx] PT)
  have HBW := Lib.hid (show Below w.heap.size w _ from (((Below.refl w.heap.size w).alloc (Nat.le_refl _) (.cells #[.int .u64 x, .int .i64 bits, .int .i64 n, .pointer p] MT)).alloc (by simp) (.cells #[.string ak, .int .i64 ax] PT)).alloc (by simp; omega) (.cells #[.string bk, .int .i64 bx] PT))
  go_wp2_with fail
  generalize (((w.alloc (.cells #[.int .u64 x, .int .i64 bits, .int .i64 n, .pointer p] MT)).alloc (.cells #[.string ak, .int .i64 ax] PT)).alloc (.cells #[.string bk, .int .i64 bx] PT)) = W1 at B0 B1 B2 HBW ⊢
  have HB0 := Lib.hid B0; have HB1 := Lib.hid B1; have HB2 := Lib.hid B2
  obtain ⟨⟨m0, m1, m2, m3⟩, -⟩ := box4 B0
  obtain ⟨⟨a0, a1⟩, -, -⟩ := box2 B1
  obtain ⟨⟨b0, b1⟩, -, -⟩ := box2 B2
  clear B0 B1 B2
  go_region_held3 (fun w' => w'.cell? ⟨w.heap.size, 0, none⟩ = some (.int .u64 x) ∧ w'.cell? ⟨w.heap.size, 1, none⟩ = some (.int .i64 bits) ∧ w'.cell? ⟨w.heap.size, 2, none⟩ = some (.int .i64 n) ∧ w'.cell? ⟨w.heap.size, 3, none⟩ = some (.pointer p) ∧ w'.cell? ⟨w.heap.size + 1, 0, none⟩ = some (.string ak) ∧ w'.cell? ⟨w.heap.size + 1, 1, none⟩ = some (.int .i64 ax) ∧ w'.cell? ⟨w.heap.size + 1 + 1, 0, none⟩ = some (.string bk) ∧ w'.cell? ⟨w.heap.size + 1 + 1, 1, none⟩ = some (.int .i64 bx))
    (first | (go_keep; done) | (refine ⟨?_, ?_, ?_, ?_, ?_, ?_, ?_, ?_⟩ <;> first | (with_reducible assumption) | (with_reducible exact cell_below m0 (by assumption)) | (with_reducible exact cell_below m1 (by assumption)) | (with_reducible exact cell_below m2 (by assumption)) | (with_reducible exact cell_below m3 (by assumption)) | (with_reducible exact cell_below a0 (by assumption)) | (with_reducible exact cell_below a1 (by assumption)) | (with_reducible exact cell_below b0 (by assumption)) | (with_reducible exact cell_below b1 (by assumption)) | (go_keep; done)))
    (first
      | (go_at_call 33; (with_reducible refine (HSa.out _).mono ?_); rintro e w2 ⟨v, rfl, rfl, hb2⟩; have hB2 : Below W1.heap.size W1 w2 := below_trans (w1 := W1.drew) (Below.refl _ _).drew hb2)
      | (go_at_call 78; (with_reducible refine (HCa.out _).mono ?_); rintro e w3 ⟨v, rfl, rfl, hb3⟩; have hB3 : Below W1.heap.size W1 w3 := below_trans hB2 hb3)
      | (go_at_call 33; (with_reducible refine (HSb.out _).mono ?_); rintro e w4 ⟨v, rfl, rfl, hb4⟩; have hB4 : Below W1.heap.size W1 w4 := below_trans hB3 hb4)
      | (go_at_call 78; (with_reducible refine (HCb.out _).mono ?_); rintro e w5 ⟨v, rfl, rfl, hb5⟩; have hB5 : Below W1.heap.size W1 w5 := below_trans hB4 hb5)
      | fail)
  have HW5 := Lib.hid (below_trans HBW.out hB5)
  have M6 := blk_alloc (blk_below HB0.out hB5) (.cells #[.int .u32 0, .slice none 0 0] RWT)
  have A6 := blk_alloc (blk_below HB1.out hB5) (.cells #[.int .u32 0, .slice none 0 0] RWT)
  have B6 := blk_alloc (blk_below HB2.out hB5) (.cells #[.int .u32 0, .slice none 0 0] RWT)
  have R6 := blk_new w5 (.cells #[.int .u32 0, .slice none 0 0] RWT)
  have hW6 : Below w.heap.size w (w5.alloc (.cells #[.int .u32 0, .slice none 0 0] RWT)) := HW5.out.alloc HW5.out.size _
  have hs6 : w5.heap.size < (w5.alloc (.cells #[.int .u32 0, .slice none 0 0] RWT)).heap.size := by simp
  have hs5 := HW5.out.size
  have hws : IntKind.i64.wrap ((l : Int) + 1) = (l : Int) + 1 := by rw [IntKind.wrap_i64]; omega
  clear m0 m1 m2 m3 a0 a1 b0 b1 hb2 hB2 hb3 hB3 hb4 hB4 hb5 hB5
  by_cases hik : i = k
  · subst hik
    go_wp2_with fail
    generalize w5.alloc (.cells #[.int .u32 0, .slice none 0 0] RWT) = W6 at M6 A6 B6 R6 hW6 hs6 ⊢
    obtain ⟨⟨m0, m1, m2, m3⟩, -⟩ := box4 M6
    obtain ⟨⟨a0, a1⟩, -, -⟩ := box2 A6
    obtain ⟨⟨b0, b1⟩, -, -⟩ := box2 B6
    obtain ⟨⟨r0, r1⟩, -, -⟩ := box2 R6
    have HW6 := Lib.hid hW6
    have HRS := Lib.hid (fun (q : Option Addr) V => (show Calls Tryd.prog 101 #[.agg #[.int .u32 0, .slice none 0 0], .int .i64 (i : Int), .agg #[.string ⟨#[]⟩, .int .i64 0, .pointer q]] V _ from rset_c (fun _ => False) noneC 0 i bits_none.symm hi32 (.slice none 0 0) ⟨#[]⟩ 0 q V (rows_none _ V)))
    clear M6 A6 B6 R6 hW6
    go_region_held3 (fun w' => w'.cell? ⟨w.heap.size, 0, none⟩ = some (.int .u64 x) ∧ w'.cell? ⟨w.heap.size, 1, none⟩ = some (.int .i64 bits) ∧ w'.cell? ⟨w.heap.size, 2, none⟩ = some (.int .i64 n) ∧ w'.cell? ⟨w.heap.size, 3, none⟩ = some (.pointer p) ∧ w'.cell? ⟨w.heap.size + 1, 0, none⟩ = some (.string ak) ∧ w'.cell? ⟨w.heap.size + 1, 1, none⟩ = some (.int .i64 ax) ∧ w'.cell? ⟨w.heap.size + 1 + 1, 0, none⟩ = some (.string bk) ∧ w'.cell? ⟨w.heap.size + 1 + 1, 1, none⟩ = some (.int .i64 bx) ∧ w'.cell? ⟨w5.heap.size, 0, none⟩ = some (.int .u32 0) ∧ w'.cell? ⟨w5.heap.size, 1, none⟩ = some (.slice none 0 0))
      (first | (go_keep; done) | (refine ⟨?_, ?_, ?_, ?_, ?_, ?_, ?_, ?_, ?_, ?_⟩ <;> first | (with_reducible assumption) | (with_reducible exact cell_below m0 (by assumption)) | (with_reducible exact cell_below m1 (by assumption)) | (with_reducible exact cell_below m2 (by assumption)) | (with_reducible exact cell_below m3 (by assumption)) | (with_reducible exact cell_below a0 (by assumption)) | (with_reducible exact cell_below a1 (by assumption)) | (with_reducible exact cell_below b0 (by assumption)) | (with_reducible exact cell_below b1 (by assumption)) | (with_reducible exact cell_below r0 (by assumption)) | (with_reducible exact cell_below r1 (by assumption)) | (go_keep; done)))
      (first
        | (go_at_call 100; (with_reducible refine (HF.out _).mono ?_); rintro e w7 ⟨v, rfl, ⟨q, rfl, hQ⟩, hb7⟩; have hB7 : Below W6.heap.size W6 w7 := below_trans (w1 := W6.drew) (Below.refl _ _).drew hb7)
        | (go_at_call 101; (with_reducible refine (HRS.out _ _).mono ?_); rintro e w8 ⟨v, rfl, ⟨A8, n8, cp8, b8, rfl, hb8', hR8⟩, hb8⟩; have hB8 : Below W6.heap.size W6 w8 := below_trans hB7 hb8; have HR8 := Lib.hid hR8; have HB8 := Lib.hid hb8'; clear hR8 hb8')
        | fail)
    go_wp2_with fail
    go_returns
    have h68 := hB8.size
    have h07 := hB7.size
    have hw8 : Below w.heap.size w w8 := below_trans HW6.out hB8
    refine ⟨_, rfl, ⟨_, rfl, ?_⟩, hw8.alloc hw8.size _⟩
    have hb' := HB8.out
    subst hb'
    refine node_of l HDL.out (conts_same c l (ak, ax) (bk, bx) i q HI.out.symm HKK.out.symm).symm (blk_new w8 _) hw8.size ?_ fun j hj h2 => ?_
    · exact (RowS.below HR8.out ((Below.refl _ _).alloc (Nat.le_refl _) _)).keep (fun t ht _ => ht.elim (fun h => h.elim) fun h => by have := HW6.out.size; show w.heap.size ≤ t; omega) (fun _ _ _ => rfl)
    · have hg := grp_same c l (ak, ax) (bk, bx) i HI.out.symm HKK.out.symm j h2
      rw [hg]
      exact (hQ.below (hb8.alloc hb8.size _)).mono fun t ht => by have : W6.drew.heap.size ≤ t := ht; have h2 : W6.drew.heap.size = W6.heap.size := rfl; have := HW6.out.size; show w.heap.size ≤ t; omega
  · have hikI : ((i : Int) == (k : Int)) = false := beq_false_of_ne (by omega)
    go_wp2_with fail
    generalize w5.alloc (.cells #[.int .u32 0, .slice none 0 0] RWT) = W6 at M6 A6 B6 R6 hW6 hs6 ⊢
    obtain ⟨⟨m0, m1, m2, m3⟩, -⟩ := box4 M6
    obtain ⟨⟨a0, a1⟩, -, -⟩ := box2 A6
    obtain ⟨⟨b0, b1⟩, -, -⟩ := box2 B6
    obtain ⟨⟨r0, r1⟩, -, -⟩ := box2 R6
    have HW6 := Lib.hid hW6
    have HRS := Lib.hid (fun V => (show Calls Tryd.prog 101 #[.agg #[.int .u32 0, .slice none 0 0], .int .i64 (i : Int), .agg #[.string ak, .int .i64 ax, .pointer none]] V _ from rset_c (fun _ => False) noneC 0 i bits_none.symm hi32 (.slice none 0 0) ak ax none V (rows_none _ V)))
    have HRT := Lib.hid (fun (K : Nat → Prop) (b' : Nat) (A : Option Addr) (n cp : Nat) V (hb : b' = bitsN (has (put noneC i (some [.string ak, .int .i64 ax, .pointer none]))) 32) (h : RowS K V (.slice A n cp) (put noneC i (some [.string ak, .int .i64 ax, .pointer none]))) => rset_c K (put noneC i (some [.string ak, .int .i64 ax, .pointer none])) b' k hb hk32 (.slice A n cp) bk bx none V h)
    have HIK := Lib.hid hik
    clear M6 A6 B6 R6 hW6 hik
    go_region_held3 (fun w' => w'.cell? ⟨w.heap.size, 0, none⟩ = some (.int .u64 x) ∧ w'.cell? ⟨w.heap.size, 1, none⟩ = some (.int .i64 bits) ∧ w'.cell? ⟨w.heap.size, 2, none⟩ = some (.int .i64 n) ∧ w'.cell? ⟨w.heap.size, 3, none⟩ = some (.pointer p) ∧ w'.cell? ⟨w.heap.size + 1, 0, none⟩ = some (.string ak) ∧ w'.cell? ⟨w.heap.size + 1, 1, none⟩ = some (.int .i64 ax) ∧ w'.cell? ⟨w.heap.size + 1 + 1, 0, none⟩ = some (.string bk) ∧ w'.cell? ⟨w.heap.size + 1 + 1, 1, none⟩ = some (.int .i64 bx) ∧ w'.cell? ⟨w5.heap.size, 0, none⟩ = some (.int .u32 0) ∧ w'.cell? ⟨w5.heap.size, 1, none⟩ = some (.slice none 0 0))
      (first | (go_keep; done) | (refine ⟨?_, ?_, ?_, ?_, ?_, ?_, ?_, ?_, ?_, ?_⟩ <;> first | (with_reducible assumption) | (with_reducible exact cell_below m0 (by assumption)) | (with_reducible exact cell_below m1 (by assumption)) | (with_reducible exact cell_below m2 (by assumption)) | (with_reducible exact cell_below m3 (by assumption)) | (with_reducible exact cell_below a0 (by assumption)) | (with_reducible exact cell_below a1 (by assumption)) | (with_reducible exact cell_below b0 (by assumption)) | (with_reducible exact cell_below b1 (by assumption)) | (with_reducible exact cell_below r0 (by assumption)) | (with_reducible exact cell_below r1 (by assumption)) | (go_keep; done)))
      (first
        | (go_at_call 101; (with_reducible refine (HRS.out _).mono ?_); rintro e w7 ⟨v, rfl, ⟨A7, n7, cp7, b7, rfl, hb7', hR7⟩, hb7⟩; have hB7 : Below W6.heap.size W6 w7 := below_trans (w1 := W6.drew) (Below.refl _ _).drew hb7; have HR7 := Lib.hid hR7; have HB7 := Lib.hid hb7'; clear hR7 hb7')
        | (go_at_call 101; (with_reducible refine (HRT.out _ _ _ _ _ _ HB7.out HR7.out).mono ?_); rintro e w8 ⟨v, rfl, ⟨A8, n8, cp8, b8, rfl, hb8', hR8⟩, hb8⟩; have hB8 : Below W6.heap.size W6 w8 := below_trans hB7 hb8; have HR8 := Lib.hid hR8; have HB8 := Lib.hid hb8'; clear hR8 hb8')
        | fail)
    go_wp2_with fail
    go_returns
    have h68 := hB8.size
    have h07 := hB7.size
    have hw8 : Below w.heap.size w w8 := below_trans HW6.out hB8
    refine ⟨_, rfl, ⟨_, rfl, ?_⟩, hw8.alloc hw8.size _⟩
    have hb' := HB8.out
    subst hb'
    refine node_of (q := fun _ => none) l HDL.out (conts_apart c l (ak, ax) (bk, bx) i k _ HI.out.symm HKK.out.symm HIK.out).symm (blk_new w8 _) hw8.size ?_ fun j hj h2 => ?_
    · refine (RowS.below HR8.out ((Below.refl _ _).alloc (Nat.le_refl _) _)).keep (fun t ht _ => ?_) (fun _ _ _ => rfl)
      have hs := HW6.out.size
      have h2 : W6.drew.heap.size = W6.heap.size := rfl
      show w.heap.size ≤ t
      rcases ht with (h | h) | h
      · exact h.elim
      · omega
      · omega
    · have := grp_apart c l (ak, ax) (bk, bx) (by have h1 := HI.out; have h3 := HKK.out; have h4 := HIK.out; dsimp only; omega) j
      omega
theorem fork_c (c : Cf) (d : Nat) : ForkP c d := by
  induction d with
  | zero => exact fork_leaf c
  | succ d ih => exact fork_inner c d ih
end Go.Proofs.YtnegblckbomgdaaDoor.Ht
end
section
namespace Go.Proofs.YtnegblckbomgdaaDoor.Ht
open Go Go.RowKit Go.Proofs.YtnegblckbomgdaaDoor.Mem Go.Proofs.YtnegblckbomgdaaDoor.PA Go.Proofs.YtnegblckbomgdaaDoorW.PrintWords Go.Proofs.YtnegblckbomgdaaDoor.U64
attribute [local go_sem ↓] Go.wp_at_zero Go.wp_at_succ
set_option maxRecDepth 100000 in
set_option maxHeartbeats 2000000 in
theorem first_none (A : Option Addr) (n cp : Nat) (w : World) :
    Calls Tryd.prog 127 #[.agg #[.int .u32 0, .slice A n cp]] w (Ret (fun v _ => v = .tuple #[.int .i64 0, .agg #[.string ⟨#[]⟩, .int .i64 0, .pointer none], .bool false]) w) := by
  go_enter Tryd.func127, Tryd.ntmps127
  go_wp2_with fail
  have BR : (((w.alloc _).alloc _).alloc _).heap[w.heap.size + 1]? = _ := blk_alloc (heap_k1 w (.cells #[.int .u32 0, .slice A n cp] RWT) (.cells #[.string ⟨#[]⟩, .int .i64 0, .pointer none] ST)) (.cells #[.string ⟨#[]⟩, .int .i64 0, .pointer none] ST)
  have BZ : (((w.alloc _).alloc _).alloc _).heap[w.heap.size + 1 + 1]? = _ := heap_k2 w (.cells #[.int .u32 0, .slice A n cp] RWT) (.cells #[.string ⟨#[]⟩, .int .i64 0, .pointer none] ST) (.cells #[.string ⟨#[]⟩, .int .i64 0, .pointer none] ST)
  have hB1 : Below w.heap.size w _ := (((Below.refl w.heap.size w).alloc (Nat.le_refl _) (.cells #[.int .u32 0, .slice A n cp] RWT)).alloc (by simp) (.cells #[.string ⟨#[]⟩, .int .i64 0, .pointer none] ST)).alloc (by simp; omega) (.cells #[.string ⟨#[]⟩, .int .i64 0, .pointer none] ST)
  generalize (((w.alloc (.cells #[.int .u32 0, .slice A n cp] RWT)).alloc (.cells #[.string ⟨#[]⟩, .int .i64 0, .pointer none] ST)).alloc (.cells #[.string ⟨#[]⟩, .int .i64 0, .pointer none] ST)) = W1 at BR BZ hB1 ⊢
  obtain ⟨⟨z0, z1, z2⟩, -⟩ := box3 BZ
  obtain ⟨⟨r0, r1, r2⟩, f0, f1, f2⟩ := box3 BR
  have HBR := Lib.hid BR; have HB1 := Lib.hid hB1; clear BR BZ hB1
  go_region_held3 (fun w' => w'.cell? ⟨w.heap.size + 1 + 1, 0, none⟩ = some (.string ⟨#[]⟩) ∧ w'.cell? ⟨w.heap.size + 1 + 1, 1, none⟩ = some (.int .i64 0) ∧ w'.cell? ⟨w.heap.size + 1 + 1, 2, none⟩ = some (.pointer none))
    (first | (go_keep; done) | (refine ⟨?_, ?_, ?_⟩ <;> (go_keep; done)))
    (fail)
  go_wp2_with fail
  have hle : w.heap.size ≤ w.heap.size + 1 := by omega
  refine bodyPost_ret (results_tct rfl _ _ (w.heap.size + 1) ST #[.string ⟨#[]⟩, .int .i64 0, .pointer none] (0, 0) _ _ _ rfl rfl rfl (put3 (blk_drew HBR.out)) Tryd.underlying124 rfl (by kernel_rfl)) rfl ?_
  exact ⟨_, rfl, rfl, below_put3 HB1.out.drew hle _ _ _⟩
theorem least {P : Nat → Prop} (hd : ∀ i, Decidable (P i)) : ∀ n, (∃ i, i < n ∧ P i) → ∃ i, i < n ∧ P i ∧ ∀ j, j < i → ¬ P j
  | 0, h => by obtain ⟨i, hi, _⟩ := h; omega
  | n + 1, h => by
    by_cases hn : ∃ i, i < n ∧ P i
    · obtain ⟨i, hi, hp, hl⟩ := least hd n hn
      exact ⟨i, by omega, hp, hl⟩
    · obtain ⟨i, hi, hp⟩ := h
      have : i = n := by
        rcases Nat.lt_or_ge i n with h1 | h1
        · exact absurd ⟨i, h1, hp⟩ hn
        · omega
      subst this
      exact ⟨i, hi, hp, fun j hj hpj => hn ⟨j, hj, hpj⟩⟩
theorem grp_self (ck : ByteArray → Nat) (L : List Pr) (e : Pr) (he : e ∈ L) : grp ck (ck e.1) L ≠ [] := fun h => by
  have : e ∈ grp ck (ck e.1) L := mem_grp.2 ⟨he, rfl⟩
  rw [h] at this; cases this
theorem has_conts (c : Cf) (l : Nat) (M : List Pr) (q : Nat → Option Addr) (i : Nat) : has (conts c l M q) i = true ↔ grp (chk c l) i M ≠ [] := by
  unfold has conts
  rw [Option.isSome_iff_ne_none, Ne, slotOf_none]
theorem cnt_one_of (f : Nat → Bool) (i n : Nat) (hi : i < n) (hf : f i = true) (hc : cnt f n = 1) (j : Nat) (hj : j < n) (hjf : f j = true) : j = i := by
  rcases Nat.lt_trichotomy j i with h | h | h
  · have h1 := cnt_lt f (show j < i from h) hjf
    have h2 := cnt_lt f hi hf
    omega
  · exact h
  · have h1 := cnt_lt f h hf
    have h2 := cnt_lt f hj hjf
    omega
theorem one_of_cnt (f : Nat → Bool) (i n : Nat) (hi : i < n) (hf : f i = true) (h : ∀ j, j < n → f j = true → j = i) : cnt f n = 1 := by
  induction n with
  | zero => omega
  | succ n ih =>
    rw [cnt_succ]
    by_cases hin : i = n
    · subst hin
      rw [if_pos hf]
      have : cnt f i = 0 := by
        unfold cnt
        rw [List.length_eq_zero_iff, List.filter_eq_nil_iff]
        intro j hj hjf
        have := h j (by have := List.mem_range.1 hj; omega) (by simpa using hjf)
        have := List.mem_range.1 hj
        omega
      omega
    · rw [ih (by omega) fun j hj hjf => h j (by omega) hjf, if_neg]
      intro hn
      exact hin (h n (by omega) hn).symm
theorem one_row (c : Cf) (l : Nat) (M : List Pr) (q : Nat → Option Addr) (i : Nat) (hi : i < 32) (e : Pr) (hg : grp (chk c l) i M = [e]) : cnt (has (conts c l M q)) 32 = 1 ↔ M = [e] := by
  have hf : has (conts c l M q) i = true := (has_conts c l M q i).2 (by rw [hg]; simp)
  constructor
  · intro h1
    rw [← hg]
    refine (List.filter_eq_self.2 fun e' he' => ?_).symm
    have := cnt_one_of _ i 32 hi hf h1 (chk c l e'.1) (chk_lt _ _ _) ((has_conts c l M q _).2 (grp_self _ _ _ he'))
    simpa using this
  · rintro rfl
    refine one_of_cnt _ i 32 hi hf fun j hj hjf => ?_
    have h1 := (has_conts c l [e] q j).1 hjf
    have h2 : e ∈ grp (chk c l) i [e] := by rw [hg]; simp
    have h3 := (mem_grp.1 h2).2
    by_cases h4 : chk c l e.1 = j
    · rw [← h4, h3]
    · exact absurd (List.filter_eq_nil_iff.2 fun e' he' => by simp at he'; subst he'; simp [h4]) h1
def LoneV (M : List Pr) (v : Value) : Prop := ∃ (k : ByteArray) (x : Int) (o : Bool), v = .tuple #[.agg #[.string k, .int .i64 x], .bool o] ∧ (o = true → M = [(k, x)]) ∧ (o = false → 2 ≤ M.length)
set_option maxRecDepth 100000 in
set_option maxHeartbeats 8000000 in
theorem lone_yes (w : World) (g i : Nat) (b : Int) (A : Option Addr) (cp : Nat) (A2 : Option Addr) (m2 cp2 : Nat) (k : ByteArray) (x : Int) (o0 : Bool) (hm2 : ((m2 : Int) == 1) = false)
    (hg : w.heap[g]? = some (.cells #[.int .u32 b, .slice A 1 cp, .slice A2 m2 cp2] NT (0, 0)))
    (hF : ∀ V, Below w.heap.size w V → Calls Tryd.prog 127 #[.agg #[.int .u32 b, .slice A 1 cp]] V (Ret (fun v _ => v = .tuple #[.int .i64 (i : Int), .agg #[.string k, .int .i64 x, .pointer none], .bool o0]) V)) :
    Calls Tryd.prog 112 #[.pointer (some ⟨g, 0, none⟩)] w (Ret (fun v _ => v = .tuple #[.agg #[.string k, .int .i64 x], .bool true]) w) := by
  obtain ⟨⟨k0, k1, k2⟩, -⟩ := box3 hg
  have hglt := blk_lt hg
  have ng0 : w.heap.size ≠ g := by omega
  have HF := Lib.hid hF
  have HL := Lib.hid (fun V => (show Calls Tryd.prog 128 #[.agg #[.int .u32 b, .slice A 1 cp]] V (Ret (fun v _ => v = .int .i64 1) V) from rlen_c b A 1 cp V))
  have HG := Lib.hid hg
  clear hF hg
  go_enter Tryd.func112, Tryd.ntmps112
  go_wp2_with (first
    | (go_at_call 127; ((with_reducible refine (HF.out _ (by go_grown)).mono ?_); rintro e w1 ⟨v, rfl, rfl, hb1⟩)))
  have hb1' : Below w.heap.size w w1 := below_trans ((Below.refl _ _).alloc (Nat.le_refl _) _) hb1
  have BR := blk_alloc (blk_below (blk_new w (.cells #[.string ⟨#[]⟩, .int .i64 0] PT)) hb1) (.cells #[.string k, .int .i64 x, .pointer none] ST)
  have BZ := blk_new w1 (.cells #[.string k, .int .i64 x, .pointer none] ST)
  have BG := blk_alloc (blk_below HG.out hb1') (.cells #[.string k, .int .i64 x, .pointer none] ST)
  have hB2 : Below w.heap.size w (w1.alloc (.cells #[.string k, .int .i64 x, .pointer none] ST)) := hb1'.alloc hb1'.size _
  have n1 : w1.heap.size ≠ w.heap.size := by have := hb1.size; simp only [World.size_alloc] at this; omega
  generalize w1.alloc (.cells #[.string k, .int .i64 x, .pointer none] ST) = W2 at BR BZ BG hB2 ⊢
  obtain ⟨⟨z0, z1, z2⟩, -⟩ := box3 BZ
  obtain ⟨⟨r0, r1⟩, f0, f1⟩ := box2 BR
  obtain ⟨⟨g0, g1, -⟩, -⟩ := box3 BG
  have HBR := Lib.hid BR; have HB2 := Lib.hid hB2
  clear BR BZ BG hB2 k0 k1 k2 hb1 hb1' HG HF
  first
  | (go_region_with (first
      | (go_at_call 128; (with_reducible refine (HL.out _).mono ?_); rintro e w3 ⟨v, rfl, rfl, hb3⟩; have hB3 : Below W2.heap.size W2 w3 := below_trans (w1 := World.drew _) (Below.refl _ _).drew hb3; have BR3 := blk_below HBR.out hB3; obtain ⟨⟨r30, r31⟩, f30, f31⟩ := box2 BR3; have HBR3 := Lib.hid BR3; have z30 := cell_below z0 hB3; have z31 := cell_below z1 hB3; have z32 := cell_below z2 hB3; clear BR3)))
  | fail
  all_goals go_wp2_with fail
  all_goals
    refine bodyPost_ret (results_ct rfl _ _ w.heap.size PT #[.string k, .int .i64 x] (0, 0) _ _ rfl rfl (put2 HBR3.out) Tryd.underlying121 rfl (by kernel_rfl)) rfl ?_
    exact ⟨_, rfl, rfl, below_put2 (below_trans HB2.out hB3) (Nat.le_refl _) _ _⟩
set_option maxRecDepth 100000 in
set_option maxHeartbeats 8000000 in
theorem lone_no (w : World) (g i : Nat) (b : Int) (A : Option Addr) (n cp : Nat) (A2 : Option Addr) (m2 cp2 : Nat) (k : ByteArray) (x : Int) (q : Option Addr) (hn : ((n : Int) == 1) = false) (o0 : Bool) (hm2 : ((m2 : Int) == 1) = false)
    (hg : w.heap[g]? = some (.cells #[.int .u32 b, .slice A n cp, .slice A2 m2 cp2] NT (0, 0)))
    (hF : ∀ V, Below w.heap.size w V → Calls Tryd.prog 127 #[.agg #[.int .u32 b, .slice A n cp]] V (Ret (fun v _ => v = .tuple #[.int .i64 (i : Int), .agg #[.string k, .int .i64 x, .pointer q], .bool o0]) V)) :
    Calls Tryd.prog 112 #[.pointer (some ⟨g, 0, none⟩)] w (Ret (fun v _ => v = .tuple #[.agg #[.string k, .int .i64 x], .bool false]) w) := by
  obtain ⟨⟨k0, k1, k2⟩, -⟩ := box3 hg
  have hglt := blk_lt hg
  have ng0 : w.heap.size ≠ g := by omega
  have HF := Lib.hid hF
  have HL := Lib.hid (fun V => (show Calls Tryd.prog 128 #[.agg #[.int .u32 b, .slice A n cp]] V (Ret (fun v _ => v = .int .i64 (n : Int)) V) from rlen_c b A n cp V))
  have HG := Lib.hid hg
  clear hF hg
  go_enter Tryd.func112, Tryd.ntmps112
  go_wp2_with (first
    | (go_at_call 127; ((with_reducible refine (HF.out _ (by go_grown)).mono ?_); rintro e w1 ⟨v, rfl, rfl, hb1⟩)))
  have hb1' : Below w.heap.size w w1 := below_trans ((Below.refl _ _).alloc (Nat.le_refl _) _) hb1
  have BR := blk_alloc (blk_below (blk_new w (.cells #[.string ⟨#[]⟩, .int .i64 0] PT)) hb1) (.cells #[.string k, .int .i64 x, .pointer q] ST)
  have BZ := blk_new w1 (.cells #[.string k, .int .i64 x, .pointer q] ST)
  have BG := blk_alloc (blk_below HG.out hb1') (.cells #[.string k, .int .i64 x, .pointer q] ST)
  have hB2 : Below w.heap.size w (w1.alloc (.cells #[.string k, .int .i64 x, .pointer q] ST)) := hb1'.alloc hb1'.size _
  have n1 : w1.heap.size ≠ w.heap.size := by have := hb1.size; simp only [World.size_alloc] at this; omega
  generalize w1.alloc (.cells #[.string k, .int .i64 x, .pointer q] ST) = W2 at BR BZ BG hB2 ⊢
  obtain ⟨⟨z0, z1, z2⟩, -⟩ := box3 BZ
  obtain ⟨⟨r0, r1⟩, f0, f1⟩ := box2 BR
  obtain ⟨⟨g0, g1, -⟩, -⟩ := box3 BG
  have HBR := Lib.hid BR; have HB2 := Lib.hid hB2
  clear BR BZ BG hB2 k0 k1 k2 hb1 hb1' HG HF
  first
  | (go_region_with (first
      | (go_at_call 128; (with_reducible refine (HL.out _).mono ?_); rintro e w3 ⟨v, rfl, rfl, hb3⟩; have hB3 : Below W2.heap.size W2 w3 := below_trans (w1 := World.drew _) (Below.refl _ _).drew hb3; have BR3 := blk_below HBR.out hB3; obtain ⟨⟨r30, r31⟩, f30, f31⟩ := box2 BR3; have HBR3 := Lib.hid BR3; have z30 := cell_below z0 hB3; have z31 := cell_below z1 hB3; have z32 := cell_below z2 hB3; clear BR3)))
  | fail
  all_goals go_wp2_with fail
  all_goals
    refine bodyPost_ret (results_ct rfl _ _ w.heap.size PT #[.string k, .int .i64 x] (0, 0) _ _ rfl rfl (put2 HBR3.out) Tryd.underlying121 rfl (by kernel_rfl)) rfl ?_
    exact ⟨_, rfl, rfl, below_put2 (below_trans HB2.out hB3) (Nat.le_refl _) _ _⟩
set_option maxRecDepth 100000 in
set_option maxHeartbeats 8000000 in
theorem lone_node (w : World) (g i : Nat) (b : Int) (A : Option Addr) (cp : Nat) (A2 : Option Addr) (m2 cp2 : Nat) (k : ByteArray) (x : Int) (g' : Nat) (o0 : Bool) (hm2 : ((m2 : Int) == 1) = false)
    (hg : w.heap[g]? = some (.cells #[.int .u32 b, .slice A 1 cp, .slice A2 m2 cp2] NT (0, 0)))
    (hF : ∀ V, Below w.heap.size w V → Calls Tryd.prog 127 #[.agg #[.int .u32 b, .slice A 1 cp]] V (Ret (fun v _ => v = .tuple #[.int .i64 (i : Int), .agg #[.string k, .int .i64 x, .pointer (some ⟨g', 0, none⟩)], .bool o0]) V)) :
    Calls Tryd.prog 112 #[.pointer (some ⟨g, 0, none⟩)] w (Ret (fun v _ => v = .tuple #[.agg #[.string k, .int .i64 x], .bool false]) w) := by
  obtain ⟨⟨k0, k1, k2⟩, -⟩ := box3 hg
  have hglt := blk_lt hg
  have ng0 : w.heap.size ≠ g := by omega
  have HF := Lib.hid hF
  have HL := Lib.hid (fun V => (show Calls Tryd.prog 128 #[.agg #[.int .u32 b, .slice A 1 cp]] V (Ret (fun v _ => v = .int .i64 1) V) from rlen_c b A 1 cp V))
  have HG := Lib.hid hg
  clear hF hg
  go_enter Tryd.func112, Tryd.ntmps112
  go_wp2_with (first
    | (go_at_call 127; ((with_reducible refine (HF.out _ (by go_grown)).mono ?_); rintro e w1 ⟨v, rfl, rfl, hb1⟩)))
  have hb1' : Below w.heap.size w w1 := below_trans ((Below.refl _ _).alloc (Nat.le_refl _) _) hb1
  have BR := blk_alloc (blk_below (blk_new w (.cells #[.string ⟨#[]⟩, .int .i64 0] PT)) hb1) (.cells #[.string k, .int .i64 x, .pointer (some ⟨g', 0, none⟩)] ST)
  have BZ := blk_new w1 (.cells #[.string k, .int .i64 x, .pointer (some ⟨g', 0, none⟩)] ST)
  have BG := blk_alloc (blk_below HG.out hb1') (.cells #[.string k, .int .i64 x, .pointer (some ⟨g', 0, none⟩)] ST)
  have hB2 : Below w.heap.size w (w1.alloc (.cells #[.string k, .int .i64 x, .pointer (some ⟨g', 0, none⟩)] ST)) := hb1'.alloc hb1'.size _
  have n1 : w1.heap.size ≠ w.heap.size := by have := hb1.size; simp only [World.size_alloc] at this; omega
  generalize w1.alloc (.cells #[.string k, .int .i64 x, .pointer (some ⟨g', 0, none⟩)] ST) = W2 at BR BZ BG hB2 ⊢
  obtain ⟨⟨z0, z1, z2⟩, -⟩ := box3 BZ
  obtain ⟨⟨r0, r1⟩, f0, f1⟩ := box2 BR
  obtain ⟨⟨g0, g1, -⟩, -⟩ := box3 BG
  have HBR := Lib.hid BR; have HB2 := Lib.hid hB2
  clear BR BZ BG hB2 k0 k1 k2 hb1 hb1' HG HF
  first
  | (go_region_with (first
      | (go_at_call 128; (with_reducible refine (HL.out _).mono ?_); rintro e w3 ⟨v, rfl, rfl, hb3⟩; have hB3 : Below W2.heap.size W2 w3 := below_trans (w1 := World.drew _) (Below.refl _ _).drew hb3; have BR3 := blk_below HBR.out hB3; obtain ⟨⟨r30, r31⟩, f30, f31⟩ := box2 BR3; have HBR3 := Lib.hid BR3; have z30 := cell_below z0 hB3; have z31 := cell_below z1 hB3; have z32 := cell_below z2 hB3; clear BR3)))
  | fail
  all_goals go_wp2_with fail
  all_goals
    refine bodyPost_ret (results_ct rfl _ _ w.heap.size PT #[.string k, .int .i64 x] (0, 0) _ _ rfl rfl (put2 HBR3.out) Tryd.underlying121 rfl (by kernel_rfl)) rfl ?_
    exact ⟨_, rfl, rfl, below_put2 (below_trans HB2.out hB3) (Nat.le_refl _) _ _⟩
set_option maxHeartbeats 1000000 in
theorem lone_list (w : World) (g gl cp : Nat) (b : Int) (A : Option Addr) (n cp1 : Nat) (k : ByteArray) (x : Int)
    (hg : w.heap[g]? = some (.cells #[.int .u32 b, .slice A n cp1, .slice (some ⟨gl, 0, none⟩) 1 cp] NT (0, 0))) (c0 : w.cell? ⟨gl, 0, none⟩ = some (.string k)) (c1 : w.cell? ⟨gl, 1, none⟩ = some (.int .i64 x)) :
    Calls Tryd.prog 112 #[.pointer (some ⟨g, 0, none⟩)] w (Ret (fun v _ => v = .tuple #[.agg #[.string k, .int .i64 x], .bool true]) w) := by
  obtain ⟨⟨k0, k1, k2⟩, -⟩ := box3 hg
  have hglt := blk_lt hg
  have ng0 : w.heap.size ≠ g := by omega
  have ngl : w.heap.size ≠ gl := by have h := block_lt c0; have h2 : gl < w.heap.size := h; omega
  clear hg
  have hBz : Below w.heap.size w (w.alloc (.cells #[.string ⟨#[]⟩, .int .i64 0] PT)) := (Below.refl _ _).alloc (Nat.le_refl _) _
  have c0' := cell_below c0 hBz
  have c1' := cell_below c1 hBz
  have ngl' : gl ≠ w.heap.size := Ne.symm ngl
  clear hBz
  go_enter Tryd.func112, Tryd.ntmps112
  go_wp2_with fail
  refine bodyPost_ret (results_ct rfl _ _ w.heap.size PT #[.string k, .int .i64 x] (0, 0) _ _ rfl rfl (blk_new w _) Tryd.underlying121 rfl (by kernel_rfl)) rfl ?_
  exact ⟨_, rfl, rfl, (Below.refl _ _).alloc (Nat.le_refl _) _⟩
theorem calls_of {P Q : Value → Prop} {f : FuncId} {args : Array Value} {w : World} (h : Calls Tryd.prog f args w (Ret (fun v _ => P v) w)) (hPQ : ∀ v, P v → Q v) : Calls Tryd.prog f args w (Ret (fun v _ => Q v) w) := by
  refine h.mono ?_
  rintro e w' ⟨v, rfl, hp, hb⟩
  exact ⟨v, rfl, hPQ v hp, hb⟩
theorem lone_c (c : Cf) (K : Nat → Prop) (d : Nat) (hd : d ≤ 13) (p : Option Addr) (M : List Pr) (hM : M ≠ []) (w : World) (h : HRep c K w d p M) (hT : Tab w) :
    Calls Tryd.prog 112 #[.pointer p] w (Ret (fun v _ => LoneV M v) w) := by
  cases d with
  | zero =>
    obtain ⟨g, s, rfl, hKg, hg, hsl⟩ := h
    obtain ⟨A, cp, rfl⟩ := hsl.form
    have hm1 : 0 < M.length := List.length_pos_iff.2 hM
    obtain ⟨gl, rfl, -, hc⟩ := hsl.addr hm1
    by_cases h1 : M.length = 1
    · match M, h1 with
      | [(ek, ex)], _ =>
        refine calls_of (lone_list w g gl cp 0 none 0 0 ek ex hg (hc 0 _ rfl) (hc 1 _ rfl)) ?_
        rintro v rfl
        exact ⟨ek, ex, true, rfl, (fun _ => rfl), (fun h => by cases h)⟩
    · refine calls_of (lone_no w g 0 0 none 0 0 _ M.length cp ⟨#[]⟩ 0 none rfl false (beq_false_of_ne (by omega)) hg (fun V _ => first_none none 0 0 V)) ?_
      rintro v rfl
      exact ⟨_, _, false, rfl, (fun h => by cases h), (fun _ => by omega)⟩
  | succ d =>
    obtain ⟨g, s, q, rfl, hKg, hg, hrow, hkids⟩ := h
    obtain ⟨A, cp, hs⟩ := hrow.1.form
    subst hs
    obtain ⟨l, hl⟩ : ∃ l, l = 12 - d := ⟨_, rfl⟩
    rw [← hl] at hg hrow hkids
    have hx : ∃ i, i < 32 ∧ grp (chk c l) i M ≠ [] := by
      obtain ⟨e, he⟩ := List.exists_mem_of_ne_nil M hM
      exact ⟨_, chk_lt c l e.1, grp_self _ _ _ he⟩
    obtain ⟨i, hi, hG, hlo⟩ := least (fun i => inferInstance) 32 hx
    have hcx : conts c l M q i = slotOf (grp (chk c l) i M) (q i) := rfl
    have hlo' : ∀ j, j < i → conts c l M q j = none := fun j hj => slotOf_none.2 (by have := hlo j hj; simpa using this)
    have hki := hkids i hi
    have hone := one_row c l M q i hi
    have hlen : (grp (chk c l) i M).length ≤ M.length := List.length_filter_le _ _
    have hmem : ∀ e, grp (chk c l) i M = [e] → e ∈ M := fun e h => (mem_grp.1 (by rw [h]; simp : e ∈ grp (chk c l) i M)).1
    have hF := fun (k : ByteArray) (x : Int) (q' : Option Addr) (hxx : conts c l M q i = some [.string k, .int .i64 x, .pointer q']) V (hw : Below w.heap.size w V) => first_c K (conts c l M q) _ i rfl hi _ k x q' V (hrow.below hw) hxx hlo' (hT.below hw)
    generalize grp (chk c l) i M = G at hcx hki hG hone hlen hmem
    have h21 : (((0 : Nat) : Int) == 1) = false := rfl
    match G, hG with
    | [e], _ =>
      by_cases hn : cnt (has (conts c l M q)) 32 = 1
      · rw [hn] at hg hF
        refine calls_of (lone_yes w g i _ A cp none 0 0 e.1 e.2 true h21 hg (fun V hw => hF e.1 e.2 none hcx V hw)) ?_
        rintro v rfl
        exact ⟨e.1, e.2, true, rfl, (fun _ => (hone e rfl).1 hn), (fun h => by cases h)⟩
      · refine calls_of (lone_no w g i _ A _ cp none 0 0 e.1 e.2 none (beq_false_of_ne (by omega)) true h21 hg (fun V hw => hF e.1 e.2 none hcx V hw)) ?_
        rintro v rfl
        refine ⟨e.1, e.2, false, rfl, (fun h => by cases h), fun _ => ?_⟩
        rcases Nat.lt_or_ge M.length 2 with h1 | h1
        · exfalso
          apply hn
          apply (hone e rfl).2
          match M, h1, hM, hmem e rfl with
          | [a], _, _, h => simp at h; rw [h]
        · exact h1
    | e1 :: e2 :: r, _ =>
      obtain ⟨g', e', -, -⟩ := (hki (by simp)).ptr
      have h2 : 2 ≤ M.length := Nat.le_trans (by simp) hlen
      by_cases hn : cnt (has (conts c l M q)) 32 = 1
      · rw [hn] at hg hF
        refine calls_of (lone_node w g i _ A cp none 0 0 ⟨#[]⟩ 0 g' true h21 hg (fun V hw => hF ⟨#[]⟩ 0 _ (by rw [hcx, e']; rfl) V hw)) ?_
        rintro v rfl
        exact ⟨_, _, false, rfl, (fun h => by cases h), (fun _ => h2)⟩
      · refine calls_of (lone_no w g i _ A _ cp none 0 0 ⟨#[]⟩ 0 (some ⟨g', 0, none⟩) (beq_false_of_ne (by omega)) true h21 hg (fun V hw => hF ⟨#[]⟩ 0 _ (by rw [hcx, e']; rfl) V hw)) ?_
        rintro v rfl
        exact ⟨_, _, false, rfl, (fun h => by cases h), (fun _ => h2)⟩
end Go.Proofs.YtnegblckbomgdaaDoor.Ht
end
section
namespace Go.Proofs.YtnegblckbomgdaaDoor.Ht
open Go Go.RowKit Go.Proofs.YtnegblckbomgdaaDoor.Mem Go.Proofs.YtnegblckbomgdaaDoorW.PrintWords
def OwnP (base : Nat) (w : World) (v : Value) (n : Nat) (cs : List Value) : Prop :=
  ∃ (g c : Nat) (cur : List Value), v = .slice (some ⟨g, 0, none⟩) n c ∧ base ≤ g ∧ w.heap[g]? = some (.cells cur.toArray PT (0, 0)) ∧ n ≤ c ∧ c ≤ maxLen ∧ cur.length = c * 2 ∧ cur.take (n * 2) = cs ∧ ∀ u ∈ cs, u.oneCell' = true
theorem OwnP.of {base : Nat} {w : World} {v : Value} {n : Nat} {cs : List Value} (h : w.ownsRow base PT 2 v n cs) (hv : v ≠ .slice none 0 0) (h1 : ∀ u ∈ cs, u.oneCell' = true) : OwnP base w v n cs := by
  rcases h.2 with ⟨e, -⟩ | ⟨g, c, cur, rfl, hb, hg, hn, hc, hs, ht⟩
  · exact absurd e hv
  · exact ⟨g, c, cur.toList, rfl, hb, by simpa using hg, hn, hc, by simpa using hs, ht, h1⟩
theorem OwnP.owns {base : Nat} {w : World} {v : Value} {n : Nat} {cs : List Value} (h : OwnP base w v n cs) : w.ownsRow base PT 2 v n cs ∧ v ≠ .slice none 0 0 := by
  obtain ⟨g, c, cur, rfl, hb, hg, hn, hc, hs, ht, h1⟩ := h
  refine ⟨⟨?_, .inr ⟨g, c, cur.toArray, rfl, hb, hg, hn, hc, by simpa using hs, by simpa using ht⟩⟩, by simp⟩
  rw [← ht, List.length_take, hs]
  have : n * 2 ≤ c * 2 := by omega
  omega
theorem splice_1 {α : Type} (cur : List α) (o : Nat) (Z : List α) (ho : o ≤ cur.length) : (splice cur o Z).take (o + Z.length) = cur.take o ++ Z := by
  unfold splice
  rw [← List.append_assoc]
  have : (cur.take o ++ Z).length = o + Z.length := by rw [List.length_append, List.length_take]; omega
  rw [← this]
  exact List.take_left
theorem splice_2a {α : Type} (cur : List α) (o : Nat) (Y Z : List α) (ho : o ≤ cur.length) : (splice (splice cur o Y) (o + Y.length) Z).take (o + Y.length + Z.length) = cur.take o ++ Y ++ Z := by
  rw [splice_1, splice_1 _ _ _ ho]
  simp [splice]; omega
theorem splice_2b {α : Type} (cur : List α) (o : Nat) (Y Z : List α) (ho : o + Y.length ≤ cur.length) : (splice (splice cur (o + Y.length) Z) o Y).take (o + Y.length + Z.length) = cur.take o ++ Y ++ Z := by
  have e1 : (splice cur (o + Y.length) Z).take o = cur.take o := by
    unfold splice
    rw [List.take_append_of_le_length (by rw [List.length_take]; omega), List.take_take, Nat.min_eq_left (by omega)]
  have e2 : (splice cur (o + Y.length) Z).drop (o + Y.length) = Z ++ cur.drop (o + Y.length + Z.length) := by
    unfold splice
    have hl : (cur.take (o + Y.length)).length = o + Y.length := by rw [List.length_take]; omega
    exact List.drop_left' hl
  rw [splice, e1, e2, ← List.append_assoc, ← List.append_assoc]
  have hl : (cur.take o ++ Y ++ Z).length = o + Y.length + Z.length := by simp; omega
  rw [← hl]
  exact List.take_left
theorem run_clear_1 {P : Program} (w : World) (t e ty : TypeId) (z : Value) (cs : List Value) (ht : P.underlying t = some (.slice e)) (hv : ∀ w, (zeroValue e).run P w = .ok z w) (hz : (Builtin.zeroCells z.cells 1).toList = cs) (h1 : ∀ u ∈ cs, u.oneCell' = true) (b o c : Nat)
    (hc : ∀ j, j < cs.length → (w.cell? ⟨b, o + j, none⟩).isSome = true) (hf : ∀ j, j < cs.length → w.frozen? ⟨b, o + j, none⟩ = false) :
    (Builtin.clear_ #[t] ty #[.slice (some ⟨b, o, none⟩) 1 c]).run P w = .ok (.tuple #[]) (w.setCells b o cs) := by
  have hst := run_storeCells_cells (P := P) b o cs 0 w (by simpa using hc) (by simpa using hf) h1
  simp only [Nat.add_zero] at hst
  simp [Builtin.clear_, run_underlying ht, hv, hz, hst]
theorem info_pair : (Tryd.prog.info? PT).map (fun i => (i.zero, i.size, i.bytes)) = some (some (.agg #[.string ⟨#[]⟩, .int .i64 0]), 2, 24) := by kernel_rfl
theorem size_pair : (Tryd.prog.info? PT).map (·.size) = some 2 := by kernel_rfl
theorem slice_at (g len cap l : Nat) (x : Int) (hx : x = (l : Int)) (hl : l ≤ len) (hc : len ≤ cap) (hlt : l < cap) (W : World) :
    (Instr.slice PLT (.slice (some ⟨g, 0, none⟩) len cap) (some (.int .i64 x)) none none).run Tryd.prog W = .ok (.slice (some ⟨g, l * 2, none⟩) (len - l) (cap - l)) W := by
  obtain ⟨d, hd, h⟩ := slice_from (P := Tryd.prog) 2 PLT PT Tryd.underlying115 size_pair (some ⟨g, 0, none⟩) len cap l x hx hl hc
  rw [h W, hd hlt]
  simp [add_head]
theorem slice_any (g len cap l : Nat) (x : Int) (hx : x = (l : Int)) (hl : l ≤ len) (hc : len ≤ cap) :
    ∃ ad : Addr, (l < cap → ad = ⟨g, l * 2, none⟩) ∧ ∀ W, (Instr.slice PLT (.slice (some ⟨g, 0, none⟩) len cap) (some (.int .i64 x)) none none).run Tryd.prog W = .ok (.slice (some ad) (len - l) (cap - l)) W := by
  subst hx
  have he : Tryd.prog.elem PLT = PT := by kernel_rfl
  have hu := Tryd.underlying115
  refine ⟨if cap = l then ⟨g, 0, none⟩ else ⟨g, l * 2, none⟩, fun h => if_neg (by omega), fun W => ?_⟩
  have h0 : (0 : Int) ≤ (l : Int) := by omega
  have h1 : (l : Int) ≤ (len : Int) := by omega
  have hs := size_pair
  cases hq : Tryd.prog.info? PT with
  | none => simp [hq] at hs
  | some i =>
    have hi : i.size = 2 := by simpa [hq] using hs
    rw [run_slice_any W PLT _ len cap (by rw [he]; exact hu), he]
    simp [Instr.sliceBounds, go_sem, sizeOf, typeInfo, hq, hi, sliced, h0, h1, hl, hc]
    by_cases hcl : cap = l <;> simp [hcl, add_head]
end Go.Proofs.YtnegblckbomgdaaDoor.Ht
end
section
namespace Go.Proofs.YtnegblckbomgdaaDoor.Ht
open Go Go.RowKit Go.Proofs.YtnegblckbomgdaaDoor.Mem Go.Proofs.YtnegblckbomgdaaDoorW.PrintWords
attribute [local go_sem ↓] Go.wp_at_zero Go.wp_at_succ
set_option maxRecDepth 100000 in
set_option maxHeartbeats 2000000 in
theorem clone_c (w : World) (g n c : Nat) (L : List Pr) (hl : L.length = n) (hn : n ≤ 4294967296) (hc : ∀ (j : Nat) u, (prs L)[j]? = some u → w.cell? ⟨g, j, none⟩ = some u) :
    Calls Tryd.prog 98 #[.slice (some ⟨g, 0, none⟩) n c] w (Ret (fun v w' => OwnP w.heap.size w' v n (prs L)) w) := by
  obtain ⟨i0, hi, hz0, hz1, hz2⟩ := info_parts info_pair
  have A : Hid (∀ (j : Nat) u, (prs L)[j]? = some u → w.cell? ⟨g, j, none⟩ = some u) := hc
  clear hc
  have q22 : ∀ (w : World) (a : Option Addr) (n c n' c' : Nat), (binOp .eql PLT (.slice a n c) (.slice none n' c')).run Tryd.prog w = .ok (.bool a.isNone) w := fun w a n c n' c' => Lib.run_eql_slice_nil w _ _ a n c n' c' Tryd.underlying115
  go_enter Tryd.func98, Tryd.ntmps98
  go_wp2_with (at_builtin; refine wpList_append_own _ rfl _ _ PLT rfl w.heap.size PT i0 _ 2 24 Tryd.underlying115 hi hz0 hz1 hz2 rfl (by decide) _ _ _ rfl (World.ownsRow_made w #[] 0 (Nat.le_refl _) (Nat.zero_le _) (by simp)) ⟨g, 0, none⟩ n c (prs L) rfl ?qc1 ?qc2 ?qc3 ?qc4 ?qc5 ?qc6 ?_)
  case qc1 => rw [prs_length, hl]
  case qc2 =>
    intro j u hj
    rw [add_head]
    exact Lib.cell?_alloc_some _ (A.out j u hj)
  case qc3 => exact prs_one L
  case qc4 => rw [Nat.zero_add]; simp only [maxLen]; omega
  case qc5 => rw [Nat.zero_add]; omega
  case qc6 => simp
  intro v' w1 hown hgrow hnil
  go_wp2
  go_ret
  refine ⟨v', rfl, OwnP.of (by simpa using hown) (fun e => ?_) (prs_one L), ?_⟩
  · first | exact hnil e | exact absurd (hnil.1 e) (by simp)
  · exact ((Below.refl _ w).alloc (Nat.le_refl _) _).grown hgrow (by simp) (by intro k hk; simp [Value.ownBlock] at hk; omega)
set_option maxRecDepth 100000 in
set_option maxHeartbeats 2000000 in
theorem ins_end (base : Nat) (w0 w : World) (v : Value) (n : Nat) (cs : List Value) (hn : n ≤ 4294967296) (h : OwnP base w v n cs) (b vc : Nat) (k : ByteArray) (x : Int) (t : TypeId) (hb : w.heap[b]? = some (.cells #[.string k, .int .i64 x] t (0, 0))) (hB : Below base w0 w) :
    Calls Tryd.prog 99 #[v, .int .i64 (n : Int), .slice (some ⟨b, 0, none⟩) 1 vc] w
      (fun e w' => ∃ v', e = .returned v' ∧ OwnP base w' v' (n + 1) (cs ++ [.string k, .int .i64 x]) ∧ Below base w0 w') := by
  obtain ⟨i0, hi, hz0, hz1, hz2⟩ := info_parts info_pair
  obtain ⟨hown, hnn⟩ := h.owns
  obtain ⟨g, c, cur, rfl, hbg, hg, hnc, hcm, hcs, ht, h1⟩ := h
  have hglt := blk_lt hg
  have hcI : (n : Int) ≤ (c : Int) := by omega
  have hcI2 : (c : Int) ≤ 9223372036854775807 := by unfold maxLen at hcm; omega
  have hbytes : (n + 1) * 24 ≤ 140737488355328 := by omega
  have hm63 : n + 1 ≤ maxLen := by unfold maxLen; omega
  have HB := Lib.hid hb
  have HO := Lib.hid hown
  have H1 := Lib.hid h1
  have HX := Lib.hid hB
  clear hb hown hg h1 hB
  obtain ⟨d, hd, hsl⟩ := slice_from (P := Tryd.prog) 2 PLT PT Tryd.underlying115 size_pair (some ⟨g, 0, none⟩) n c n (n : Int) rfl (Nat.le_refl _) hnc
  clear hd
  go_enter Tryd.func99, Tryd.ntmps99
  go_wp2_with (at_builtin; refine wpList_append_own _ rfl _ _ PLT rfl base PT i0 _ 2 24 Tryd.underlying115 hi hz0 hz1 hz2 rfl (by decide) _ _ _ rfl HO.out ⟨b, 0, none⟩ 1 vc [.string k, .int .i64 x] rfl ?qc1 ?qc2 ?qc3 ?qc4 ?qc5 ?qc6 ?_)
  case qc1 => rfl
  case qc2 =>
    intro j u hj
    rw [add_head, blk_cell HB.out]
    simpa using hj
  case qc3 => intro u hu; simp at hu; rcases hu with rfl | rfl <;> rfl
  case qc4 => exact hm63
  case qc5 => exact hbytes
  case qc6 => omega
  intro v' w1 hown hgrow hnil
  go_wp2
  go_ret
  refine ⟨v', rfl, OwnP.of hown (fun e => ?_) ?_, ?_⟩
  · first | exact hnil e | exact absurd (hnil.1 e) (by simp)
  · intro u hu
    rcases List.mem_append.1 hu with hu | hu
    · exact H1.out u hu
    · simp at hu; rcases hu with rfl | rfl <;> rfl
  · exact HX.out.grown hgrow (by omega) (by intro k hk; simp [Value.ownBlock] at hk; omega)
set_option maxRecDepth 100000 in
set_option maxHeartbeats 4000000 in
theorem ins_room (base : Nat) (w0 w : World) (g n i c : Nat) (cur : List Value) (cs : List Value) (hbg : base ≤ g) (hg : w.heap[g]? = some (.cells cur.toArray PT (0, 0))) (hin : i < n) (hroom : n + 1 ≤ c) (hcm : c ≤ maxLen) (hcs : cur.length = c * 2) (ht : cur.take (n * 2) = cs) (h1 : ∀ u ∈ cs, u.oneCell' = true)
    (b vc : Nat) (hbg2 : b ≠ g) (k : ByteArray) (x : Int) (t : TypeId) (hb : w.heap[b]? = some (.cells #[.string k, .int .i64 x] t (0, 0))) (hB : Below base w0 w) :
    Calls Tryd.prog 99 #[.slice (some ⟨g, 0, none⟩) n c, .int .i64 (i : Int), .slice (some ⟨b, 0, none⟩) 1 vc] w
      (fun e w' => ∃ v', e = .returned v' ∧ OwnP base w' v' (n + 1) (cs.take (i * 2) ++ [.string k, .int .i64 x] ++ cs.drop (i * 2)) ∧ Below base w0 w') := by
  have hu := Tryd.underlying115
  have hcI : (n : Int) + 1 ≤ (c : Int) := by omega
  have hcI2 : (c : Int) ≤ 9223372036854775807 := by unfold maxLen at hcm; omega
  have hinI : (i : Int) < (n : Int) := by omega
  have hne : ¬ ((i : Int) = (n : Int)) := by omega
  have hw1 : IntKind.i64.wrap ((i : Int) + 1) = (i : Int) + 1 := by rw [IntKind.wrap_i64]; omega
  have hw2 : IntKind.i64.wrap ((n : Int) + 1) = (n : Int) + 1 := by rw [IntKind.wrap_i64]; omega
  have hgt : ¬ ((c : Int) < (n : Int) + 1) := by omega
  have hcl : cs.length = n * 2 := by rw [← ht, List.length_take, hcs]; omega
  have s1 := slice_at g n c i (i : Int) rfl (by omega) (by omega) (by omega)
  have s2 := slice_at g (n + 1) c i (i : Int) rfl (by omega) (by omega) (by omega)
  have s3 := slice_at g (n + 1) c (i + 1) ((i : Int) + 1) (by push_cast; rfl) (by omega) (by omega) (by omega)
  rw [show n + 1 - (i + 1) = n - i by omega] at s3
  have hov : ∀ lb cb, (callFunc 122 #[.slice (some ⟨b, 0, none⟩) 1 vc, .slice (some ⟨g, (i + 1) * 2, none⟩) lb cb]).run Tryd.prog w = .ok (.value (.bool false)) w := fun lb cb => by
    rw [run_callFunc_extern Tryd.func122 (by kernel_rfl) (by kernel_rfl) (by kernel_rfl) (e := Extern.SlicesOverlaps.overlaps #[PLT, PLT] #[4]) (by kernel_rfl),
      Lib.run_overlaps_apart w PLT 4 PT hu 2 Tryd.sizeOf121 ⟨b, 0, none⟩ ⟨g, (i + 1) * 2, none⟩ 1 vc lb cb hbg2 t PT 2 (c * 2) (by simp [World.shape?, hb]) (by simp [World.shape?, hg, hcs]) (by omega) (blk_frozen hb _) (blk_frozen hb _)]
    rfl
  have hmv : ∀ (j : Nat) v, (cs.drop (i * 2))[j]? = some v → w.cell? ⟨g, i * 2 + j, none⟩ = some v := fun j v hj => by
    rw [List.getElem?_drop] at hj
    rw [blk_cell hg]
    have hlt := (List.getElem?_eq_some_iff.1 hj).1
    rw [← ht, List.getElem?_take_of_lt (by rw [hcl] at hlt; exact hlt)] at hj
    simpa using hj
  have hcell : ∀ j, j < cur.length → ∃ u, w.cell? ⟨g, j, none⟩ = some u := fun j hj => row_cell hg hj
  have hr1 : ∀ ty dc sc, (Builtin.copy_ #[PLT, PLT] ty #[.slice (some ⟨g, (i + 1) * 2, none⟩) (n - i) dc, .slice (some ⟨g, i * 2, none⟩) (n + 1 - i) sc]).run Tryd.prog w.drew = .ok (goInt (Nat.min (n + 1 - i) (n - i))) (w.drew.setCells g ((i + 1) * 2) (cs.drop (i * 2))) := fun ty dc sc =>
    run_copy_k 2 w.drew PLT PLT ty PT g ((i + 1) * 2) (n - i) dc ⟨g, i * 2, none⟩ (n + 1 - i) sc (cs.drop (i * 2)) hu size_pair
      (by rw [List.length_drop, hcl, ← Nat.sub_mul]; congr 1; exact (Nat.min_eq_right (by omega)).symm)
      (fun j v hj => by rw [add_off]; exact hmv j v hj)
      (fun j hj => by
        rw [List.length_drop, hcl] at hj
        obtain ⟨u, hu⟩ := hcell ((i + 1) * 2 + j) (by omega)
        show (w.cell? _).isSome = true
        rw [hu]; rfl)
      (fun j hj => blk_frozen hg _) (fun v hv => h1 v (List.mem_of_mem_drop hv))
  have hg1 : (w.drew.setCells g ((i + 1) * 2) (cs.drop (i * 2))).heap[g]? = _ := row_splice (w := w.drew) (cs.drop (i * 2)) cur ((i + 1) * 2) hg (by rw [List.length_drop, hcl, hcs]; omega)
  have hb1 : (w.drew.setCells g ((i + 1) * 2) (cs.drop (i * 2))).heap[b]? = some (.cells #[.string k, .int .i64 x] t (0, 0)) := (setCells_far (cs.drop (i * 2)) ((i + 1) * 2) b hbg2).trans hb
  have hB1 : Below base w0 (w.drew.setCells g ((i + 1) * 2) (cs.drop (i * 2))) := below_setCells hB.drew hbg _ _
  generalize w.drew.setCells g ((i + 1) * 2) (cs.drop (i * 2)) = W1 at hr1 hg1 hb1 hB1
  obtain ⟨W2, hr2, hg2, hB2⟩ := run_copy_splice_k (P := Tryd.prog) 2 W1 PLT PLT 3 PT hu size_pair (by decide) (some ⟨g, i * 2, none⟩) (some ⟨b, 0, none⟩) (n + 1 - i) (c - i) 1 vc g (i * 2) _ PT hg1 [.string k, .int .i64 x]
    (by rw [show Nat.min 1 (n + 1 - i) = 1 from Nat.min_eq_left (by omega)]; rfl)
    (fun _ => ⟨rfl, _, rfl, fun j v hj => by rw [add_head, blk_cell hb1]; simpa using hj⟩)
    (by rw [length_splice _ _ _ (by rw [List.length_drop, hcl, hcs]; omega), hcs]; simp; omega) (fun u hu => by simp at hu; rcases hu with rfl | rfl <;> rfl) base w0 hB1 hbg
  have hlen2 : (splice (splice cur ((i + 1) * 2) (cs.drop (i * 2))) (i * 2) [.string k, .int .i64 x]).length = c * 2 := by
    rw [length_splice _ _ _ (by rw [length_splice _ _ _ (by rw [List.length_drop, hcl, hcs]; omega), hcs]; simp; omega), length_splice _ _ _ (by rw [List.length_drop, hcl, hcs]; omega), hcs]
  have htk := splice_2b cur (i * 2) [.string k, .int .i64 x] (cs.drop (i * 2)) (by simp; omega)
  have HO : OwnP base W2 (.slice (some ⟨g, 0, none⟩) (n + 1) c) (n + 1) (cs.take (i * 2) ++ [.string k, .int .i64 x] ++ cs.drop (i * 2)) := by
    refine ⟨g, c, _, rfl, hbg, hg2, hroom, hcm, hlen2, ?_, ?_⟩
    · have e1 : i * 2 + [Value.string k, Value.int .i64 x].length = (i + 1) * 2 := by simp; omega
      have e2 : (i + 1) * 2 + (cs.drop (i * 2)).length = (n + 1) * 2 := by rw [List.length_drop, hcl]; omega
      rw [e1, e2] at htk
      rw [htk]
      congr 2
      rw [← ht, List.take_take, Nat.min_eq_left (by omega)]
    · intro u hu
      rcases List.mem_append.1 hu with hu | hu
      · rcases List.mem_append.1 hu with hu | hu
        · exact h1 u (List.mem_of_mem_take hu)
        · simp at hu; rcases hu with rfl | rfl <;> rfl
      · exact h1 u (List.mem_of_mem_drop hu)
  have HH := Lib.hid HO
  have HB := Lib.hid hB2
  clear HO hB2 hg2 hlen2 htk hg1 hb1 hB1 hcell hmv hb hg h1 ht hcs hB hbg2
  go_enter Tryd.func99, Tryd.ntmps99
  go_wp2_with (simp only [hov])
  go_region_with fail
  go_wp2_with fail
  go_ret
  exact ⟨_, rfl, HH.out, HB.out⟩
end Go.Proofs.YtnegblckbomgdaaDoor.Ht
end
section
namespace Go.Proofs.YtnegblckbomgdaaDoor.Ht
open Go Go.RowKit Go.Proofs.YtnegblckbomgdaaDoor.Mem Go.Proofs.YtnegblckbomgdaaDoorW.PrintWords
attribute [local go_sem ↓] Go.wp_at_zero Go.wp_at_succ
set_option maxRecDepth 100000 in
set_option maxHeartbeats 4000000 in
theorem ins_grow (base : Nat) (w0 w : World) (g n i : Nat) (cur : List Value) (cs : List Value) (hbg : base ≤ g) (hg : w.heap[g]? = some (.cells cur.toArray PT (0, 0))) (hin : i < n) (hn : n ≤ 4294967296) (hcs : cur.length = n * 2) (ht : cur.take (n * 2) = cs) (h1 : ∀ u ∈ cs, u.oneCell' = true)
    (b vc : Nat) (k : ByteArray) (x : Int) (t : TypeId) (hb : w.heap[b]? = some (.cells #[.string k, .int .i64 x] t (0, 0))) (hB : Below base w0 w) :
    Calls Tryd.prog 99 #[.slice (some ⟨g, 0, none⟩) n n, .int .i64 (i : Int), .slice (some ⟨b, 0, none⟩) 1 vc] w
      (fun e w' => ∃ v', e = .returned v' ∧ OwnP base w' v' (n + 1) (cs.take (i * 2) ++ [.string k, .int .i64 x] ++ cs.drop (i * 2)) ∧ Below base w0 w') := by
  have hu := Tryd.underlying115
  obtain ⟨i0, hi0, hz0, hzs, hzb⟩ := info_parts info_pair
  have hcI : (n : Int) ≤ 4294967296 := by omega
  have hinI : (i : Int) < (n : Int) := by omega
  have hne : ¬ ((i : Int) = (n : Int)) := by omega
  have hw1 : IntKind.i64.wrap ((i : Int) + 1) = (i : Int) + 1 := by rw [IntKind.wrap_i64]; omega
  have hw2 : IntKind.i64.wrap ((n : Int) + 1) = (n : Int) + 1 := by rw [IntKind.wrap_i64]; omega
  have hw3 : IntKind.i64.wrap ((n : Int) + 1 - (i : Int)) = (n : Int) + 1 - (i : Int) := by rw [IntKind.wrap_i64]; omega
  have hgt : (n : Int) < (n : Int) + 1 := by omega
  have hcur : cur = cs := by rw [← ht, List.take_of_length_le (by omega)]
  subst hcur
  have hglt := blk_lt hg
  have hblt := blk_lt hb
  obtain ⟨N, hN⟩ : ∃ N, N = w.heap.size := ⟨_, rfl⟩
  obtain ⟨G, hG⟩ : ∃ G, G = grownCap w (n + 1) n PT := ⟨_, rfl⟩
  have hGn : n + 1 ≤ G := by rw [hG]; exact grownCap_ge w _ _ _
  have hGm : G ≤ maxLen := by rw [hG]; exact grownCap_le_maxLen w _ _ _ (by unfold maxLen; omega)
  have hold : (Builtin.firstCells i0.size i (.slice (some ⟨g, 0, none⟩) i n)).run Tryd.prog w.drew = .ok (cur.take (i * 2)).toArray w.drew := by
    rw [hzs]
    exact run_firstCells_some w.drew 2 i ⟨g, 0, none⟩ i n (cur.take (i * 2)) (by rw [List.length_take]; omega) (fun j v hj => by
      rw [add_head, show w.drew.cell? ⟨g, j, none⟩ = w.cell? ⟨g, j, none⟩ from rfl, blk_cell hg]
      have := (List.getElem?_eq_some_iff.1 hj).1
      rw [List.length_take] at this
      rw [List.getElem?_take_of_lt (by omega)] at hj
      simpa using hj)
  obtain ⟨row, hrow⟩ : ∃ row : List Value, row.toArray = (cur.take (i * 2)).toArray ++ Builtin.zeroCells (Value.agg #[.string ⟨#[]⟩, .int .i64 0]).cells (n + 1 - i) ++ Builtin.zeroCells (Value.agg #[.string ⟨#[]⟩, .int .i64 0]).cells (G - (n + 1)) := ⟨_, Array.toArray_toList⟩
  have hrl : row.length = G * 2 := by
    have := congrArg Array.size hrow
    simp only [Array.size_append, size_zeroCells, List.size_toArray, List.length_take] at this
    have e : (Value.agg #[Value.string ⟨#[]⟩, .int .i64 0]).cells.size = 2 := rfl
    rw [e] at this
    omega
  have hrt : row.take (i * 2) = cur.take (i * 2) := by
    have := congrArg Array.toList hrow
    simp only [Array.toList_append, List.append_assoc] at this
    rw [this]
    have e : (cur.take (i * 2)).length = i * 2 := by rw [List.length_take]; omega
    exact List.take_left' e
  have hrz : ∀ ty, (Builtin.append_ #[PLT, 3] ty #[.slice (some ⟨g, 0, none⟩) i n, .int .i64 ((n : Int) + 1 - (i : Int))]).run Tryd.prog w =
      .ok (.slice (some ⟨N, 0, none⟩) (n + 1) G) (w.drew.alloc (.cells row.toArray PT)) := fun ty => by
    have h := Lib.run_append_grow_zeros (P := Tryd.prog) w PLT 3 ty PT i0 _ .i64 .i64 hu Tryd.underlying3 hi0 hz0 (some ⟨g, 0, none⟩) i n (cur.take (i * 2)) hold (n + 1 - i) (by omega) (by omega) (by omega) (by omega) (by rw [hzb]; omega) (by rw [hzb, show i + (n + 1 - i) = n + 1 by omega]; exact growslice_fits (by omega) (by omega))
    rw [show i + (n + 1 - i) = n + 1 by omega, ← hG, ← hrow, ← hN] at h
    rw [show (n : Int) + 1 - (i : Int) = ((n + 1 - i : Nat) : Int) by omega]
    exact h
  have s0 := slice_at g n n i (i : Int) rfl (by omega) (by omega) (by omega)
  have s1 := slice_at N (n + 1) G i (i : Int) rfl (by omega) (by omega) (by omega)
  have s2 := slice_at N (n + 1) G (i + 1) ((i : Int) + 1) (by push_cast; rfl) (by omega) (by omega) (by omega)
  rw [show n + 1 - (i + 1) = n - i by omega] at s2
  have B1 : Below base w0 (w.drew.alloc (.cells row.toArray PT)) := hB.drew.alloc (by show base ≤ w.heap.size; omega) _
  have R1 : (w.drew.alloc (.cells row.toArray PT)).heap[N]? = some (.cells row.toArray PT (0, 0)) := by rw [hN]; exact heap_alloc_new w.drew _
  have G1 : (w.drew.alloc (.cells row.toArray PT)).heap[g]? = some (.cells cur.toArray PT (0, 0)) := blk_alloc (w := w.drew) hg _
  have V1 : (w.drew.alloc (.cells row.toArray PT)).heap[b]? = some (.cells #[.string k, .int .i64 x] t (0, 0)) := blk_alloc (w := w.drew) hb _
  generalize w.drew.alloc (.cells row.toArray PT) = W1 at hrz B1 R1 G1 V1
  have hgN : g ≠ N := by omega
  obtain ⟨u0, hu0⟩ := row_cell (i := i * 2) R1 (by omega)
  obtain ⟨u1, hu1⟩ := row_cell (i := i * 2 + 1) R1 (by omega)
  have hr2 : ∀ ty dc, (Builtin.copy_ #[PLT, PLT] ty #[.slice (some ⟨N, i * 2, none⟩) (n + 1 - i) dc, .slice (some ⟨b, 0, none⟩) 1 vc]).run Tryd.prog W1 = .ok (goInt (Nat.min 1 (n + 1 - i))) (W1.setCells N (i * 2) [.string k, .int .i64 x]) := fun ty dc =>
    run_copy_k 2 W1 PLT PLT ty PT N (i * 2) (n + 1 - i) dc ⟨b, 0, none⟩ 1 vc [.string k, .int .i64 x] hu size_pair
      (by rw [show Nat.min 1 (n + 1 - i) = 1 from Nat.min_eq_left (by omega)]; rfl)
      (fun j v hj => by rw [add_head, blk_cell V1]; simpa using hj)
      (fun j hj => by
        rcases j with _ | _ | j
        · rw [Nat.add_zero, hu0]; rfl
        · rw [hu1]; rfl
        · simp at hj; omega)
      (fun j hj => blk_frozen R1 _) (fun u hu => by simp at hu; rcases hu with rfl | rfl <;> rfl)
  have R2 : (W1.setCells N (i * 2) [.string k, .int .i64 x]).heap[N]? = _ := row_splice (w := W1) [.string k, .int .i64 x] row (i * 2) R1 (by simp; omega)
  have G2 : (W1.setCells N (i * 2) [.string k, .int .i64 x]).heap[g]? = _ := (setCells_far [.string k, .int .i64 x] (i * 2) g hgN).trans G1
  have B2 : Below base w0 (W1.setCells N (i * 2) [.string k, .int .i64 x]) := below_setCells B1 (by omega) _ _
  generalize W1.setCells N (i * 2) [.string k, .int .i64 x] = W2 at hr2 R2 G2 B2
  have hrl2 : (splice row (i * 2) [.string k, .int .i64 x]).length = G * 2 := by rw [length_splice _ _ _ (by simp; omega), hrl]
  obtain ⟨W3, hr3, R3, B3⟩ := run_copy_splice_k (P := Tryd.prog) 2 W2.drew PLT PLT 3 PT hu size_pair (by decide) (some ⟨N, (i + 1) * 2, none⟩) (some ⟨g, i * 2, none⟩) (n - i) (G - (i + 1)) (n - i) (n - i) N ((i + 1) * 2) _ PT R2 (cur.drop (i * 2))
    (by rw [List.length_drop, hcs, ← Nat.sub_mul]; congr 1; exact (Nat.min_self _).symm)
    (fun hp => ⟨rfl, _, rfl, fun j v hj => by
      rw [add_off, show W2.drew.cell? ⟨g, i * 2 + j, none⟩ = W2.cell? ⟨g, i * 2 + j, none⟩ from rfl, blk_cell G2]
      rw [List.getElem?_drop] at hj
      simpa using hj⟩)
    (by rw [List.length_drop, hcs, hrl2]; omega) (fun v hv => h1 v (List.mem_of_mem_drop hv)) base w0 B2.drew (by omega)
  have htk := splice_2a row (i * 2) [.string k, .int .i64 x] (cur.drop (i * 2)) (by omega)
  have HO : OwnP base W3 (.slice (some ⟨N, 0, none⟩) (n + 1) G) (n + 1) (cur.take (i * 2) ++ [.string k, .int .i64 x] ++ cur.drop (i * 2)) := by
    have e1 : i * 2 + [Value.string k, Value.int .i64 x].length = (i + 1) * 2 := by simp; omega
    have e2 : (i + 1) * 2 + (cur.drop (i * 2)).length = (n + 1) * 2 := by rw [List.length_drop, hcs]; omega
    refine ⟨N, G, _, rfl, by omega, R3, hGn, hGm, ?_, ?_, ?_⟩
    · rw [length_splice _ _ _ (by rw [List.length_drop, hcs, hrl2]; omega), hrl2]
    · rw [e1, e2, hrt] at htk
      rw [htk]
    · intro u hu
      rcases List.mem_append.1 hu with hu | hu
      · rcases List.mem_append.1 hu with hu | hu
        · exact h1 u (List.mem_of_mem_take hu)
        · simp at hu; rcases hu with rfl | rfl <;> rfl
      · exact h1 u (List.mem_of_mem_drop hu)
  have HH := Lib.hid HO
  have HB := Lib.hid B3
  have hc63 : (G : Int) ≤ 9223372036854775807 := by unfold maxLen at hGm; omega
  have hGI : (n : Int) + 1 ≤ (G : Int) := by omega
  clear HO B3 B2 B1 R3 R2 R1 G2 G1 V1 hb hg h1 ht hcs hB htk hrl2 hrl hrt hrow hold hu0 hu1 hN hG
  go_enter Tryd.func99, Tryd.ntmps99
  go_wp2_with (at_builtin; (with_reducible show wpList _ _ _ (⟨some 40, _, _, _, _, _⟩ :: _) _ _); refine Lib.wpList_append_run _ rfl (.tmp 34) (.tmp 39) PLT 3 rfl _ _ rfl rfl _ _ (hrz _) ?_)
  go_region_with fail
  go_wp2_with fail
  go_ret
  exact ⟨_, rfl, HH.out, HB.out⟩
end Go.Proofs.YtnegblckbomgdaaDoor.Ht
end
section
namespace Go.Proofs.YtnegblckbomgdaaDoor.Ht
open Go Go.RowKit Go.Proofs.YtnegblckbomgdaaDoor.Mem Go.Proofs.YtnegblckbomgdaaDoorW.PrintWords
attribute [local go_sem ↓] Go.wp_at_zero Go.wp_at_succ
theorem ins_c (base : Nat) (w0 w : World) (v : Value) (n i : Nat) (cs : List Value) (hi : i ≤ n) (hn : n ≤ 4294967296) (h : OwnP base w v n cs) (b vc : Nat) (k : ByteArray) (x : Int) (t : TypeId) (hb : w.heap[b]? = some (.cells #[.string k, .int .i64 x] t (0, 0)))
    (hbg : ∀ g c, v = .slice (some ⟨g, 0, none⟩) n c → b ≠ g) (hB : Below base w0 w) :
    Calls Tryd.prog 99 #[v, .int .i64 (i : Int), .slice (some ⟨b, 0, none⟩) 1 vc] w
      (fun e w' => ∃ v', e = .returned v' ∧ OwnP base w' v' (n + 1) (cs.take (i * 2) ++ [.string k, .int .i64 x] ++ cs.drop (i * 2)) ∧ Below base w0 w') := by
  by_cases he : i = n
  · subst he
    have hl : cs.length = i * 2 := by
      have := h.owns.1.1
      exact this
    have hd : cs.drop (i * 2) = [] := List.drop_eq_nil_of_le (by omega)
    rw [hd, List.take_of_length_le (by omega), List.append_nil]
    exact ins_end base w0 w v i cs hn h b vc k x t hb hB
  · obtain ⟨g, c, cur, rfl, hbg', hg, hnc, hcm, hcs, ht, h1⟩ := h
    by_cases hr : n + 1 ≤ c
    · exact ins_room base w0 w g n i c cur cs hbg' hg (by omega) hr hcm hcs ht h1 b vc (hbg g c rfl) k x t hb hB
    · obtain rfl : c = n := by omega
      exact ins_grow base w0 w g c i cur cs hbg' hg (by omega) hn hcs ht h1 b vc k x t hb hB
theorem step_append_run {P : Program} {ops : Array Oper} {o : Oper} {a : Act} {w : World} {K : Act → World → Prop} {Q : Exit → Act → World → Prop} {E : Prop}
    (hg : o.guard = none) (d x : Operand) (dT sT : TypeId) (hop : o.op = Op.call { callee := Callee.builtin Builtin.append, args := #[d, x], argTypes := #[dT, sT] })
    (v u : Value) (hd : a.eval d = v) (hx : a.eval x = u) {v' : Value} {w' : World} (hr : (Builtin.append_ #[dT, sT] o.type #[v, u]).run P w = .ok v' w') (hK : K (a.put o.dst v') w') :
    if Region.wanted o (yielded ops a.tmps) = true then Oper.wp P o a w K Q else E := by
  have hw : Region.wanted o (yielded ops a.tmps) = true := by simp [Region.wanted, hg]
  rw [if_pos hw]
  unfold Oper.wp
  simp [execOp, hop, resolve, invoke, builtin, hd, hx, hr, Result.andThen]
  exact hK
set_option maxRecDepth 100000 in
set_option maxHeartbeats 4000000 in
theorem del_c (base : Nat) (w0 w : World) (v : Value) (m i : Nat) (cs : List Value) (him : i ≤ m) (hm : m ≤ 4294967296) (h : OwnP base w v (m + 1) cs) (hB : Below base w0 w) :
    Calls Tryd.prog 110 #[v, .int .i64 (i : Int), .int .i64 ((i : Int) + 1)] w
      (fun e w' => ∃ v', e = .returned v' ∧ OwnP base w' v' m (cs.take (i * 2) ++ cs.drop ((i + 1) * 2)) ∧ Below base w0 w') := by
  obtain ⟨g, c, cur, rfl, hbg, hg, hnc, hcm, hcs, ht, h1⟩ := h
  have hu := Tryd.underlying115
  obtain ⟨i0, hi0, hz0, hzs, hzb⟩ := info_parts info_pair
  have hcI : (m : Int) + 1 ≤ (c : Int) := by omega
  have hcI2 : (c : Int) ≤ 9223372036854775807 := by unfold maxLen at hcm; omega
  have himI : (i : Int) ≤ (m : Int) := by omega
  have hic : i ≤ c := by omega
  have hne : ¬ ((i : Int) = (i : Int) + 1) := by omega
  have hcl : cs.length = (m + 1) * 2 := by rw [← ht, List.length_take, hcs]; omega
  obtain ⟨ad, had, s1⟩ := slice_any g (m + 1) c (i + 1) ((i : Int) + 1) (by push_cast; rfl) (by omega) hnc
  rw [show m + 1 - (i + 1) = m - i by omega] at s1
  have s2 := fun (W : World) => run_slice_any (P := Tryd.prog) W PLT (some ⟨g, 0, none⟩) m c
  have hnl : (cs.drop ((i + 1) * 2)).length = (m - i) * 2 := by rw [List.length_drop, hcl, ← Nat.sub_mul]; congr 1; omega
  have hr1 : ∀ ty, (Builtin.append_ #[PLT, PLT] ty #[.slice (some ⟨g, 0, none⟩) i c, .slice (some ad) (m - i) (c - (i + 1))]).run Tryd.prog w.drew = .ok (.slice (some ⟨g, 0, none⟩) m c) (w.drew.setRow g (splice cur (i * 2) (cs.drop ((i + 1) * 2))).toArray) := fun ty => by
    have h := run_append_room (P := Tryd.prog) w.drew PLT ty PT i0 hu hi0 g i c cur.toArray hg ad (m - i) (c - (i + 1)) (cs.drop ((i + 1) * 2)) (by rw [hnl, hzs]) (fun j u hj => by
      have hlt := (List.getElem?_eq_some_iff.1 hj).1
      rw [hnl] at hlt
      rw [had (by omega), add_off, show w.drew.cell? ⟨g, (i + 1) * 2 + j, none⟩ = w.cell? ⟨g, (i + 1) * 2 + j, none⟩ from rfl, blk_cell hg]
      rw [List.getElem?_drop, ← ht, List.getElem?_take_of_lt (by omega)] at hj
      simpa using hj) (fun u hu => h1 u (List.mem_of_mem_drop hu)) (by omega) (by rw [hzs, hnl, List.size_toArray, hcs]; omega)
    rw [h, hzs, show i + (m - i) = m by omega]
    simp [splice]
  have R1 : (w.drew.setRow g (splice cur (i * 2) (cs.drop ((i + 1) * 2))).toArray).heap[g]? = some (.cells (splice cur (i * 2) (cs.drop ((i + 1) * 2))).toArray PT (0, 0)) := setRow_heap w.drew g cur.toArray _ PT (0, 0) hg
  have B1 : Below base w0 (w.drew.setRow g (splice cur (i * 2) (cs.drop ((i + 1) * 2))).toArray) := hB.drew.grown (w' := w.drew.setRow g _) (row := some g) ⟨rfl, rfl, rfl, by simp, fun k _ hk => setRow_other w.drew g k _ (fun e => hk (by simp [e]))⟩ (by have := blk_lt hg; show base ≤ w.heap.size; omega) (by intro k hk; simp at hk; omega)
  generalize w.drew.setRow g (splice cur (i * 2) (cs.drop ((i + 1) * 2))).toArray = W1 at hr1 R1 B1
  have hl1 : (splice cur (i * 2) (cs.drop ((i + 1) * 2))).length = c * 2 := by rw [length_splice _ _ _ (by rw [hnl, hcs]; omega), hcs]
  obtain ⟨u0, hu0⟩ := row_cell (i := m * 2) R1 (by omega)
  obtain ⟨u1, hu1⟩ := row_cell (i := m * 2 + 1) R1 (by omega)
  have hr2 : ∀ ty c', (Builtin.clear_ #[PLT] ty #[.slice (some ⟨g, m * 2, none⟩) 1 c']).run Tryd.prog W1 = .ok (.tuple #[]) (W1.setCells g (m * 2) [.string ⟨#[]⟩, .int .i64 0]) := fun ty c' =>
    run_clear_1 W1 PLT PT ty _ [.string ⟨#[]⟩, .int .i64 0] hu Tryd.zeroValue121 (by first | kernel_rfl | (simp [Builtin.zeroCells, Value.cells, List.range_succ]; done)) (fun u hu => by simp at hu; rcases hu with rfl | rfl <;> rfl) g (m * 2) c'
      (fun j hj => by
        rcases j with _ | _ | j
        · rw [Nat.add_zero, hu0]; rfl
        · rw [hu1]; rfl
        · simp at hj; omega)
      (fun j hj => blk_frozen R1 _)
  have R2 : (W1.setCells g (m * 2) [.string ⟨#[]⟩, .int .i64 0]).heap[g]? = _ := row_splice (w := W1) [.string ⟨#[]⟩, .int .i64 0] _ (m * 2) R1 (by rw [hl1]; simp; omega)
  have B2 : Below base w0 (W1.setCells g (m * 2) [.string ⟨#[]⟩, .int .i64 0]) := below_setCells B1 (by omega) _ _
  generalize W1.setCells g (m * 2) [.string ⟨#[]⟩, .int .i64 0] = W2 at hr2 R2 B2
  have HO : OwnP base W2 (.slice (some ⟨g, 0, none⟩) m c) m (cs.take (i * 2) ++ cs.drop ((i + 1) * 2)) := by
    refine ⟨g, c, _, rfl, hbg, R2, by omega, hcm, ?_, ?_, ?_⟩
    · rw [length_splice _ _ _ (by rw [hl1]; simp; omega), hl1]
    · have h1 := splice_1 cur (i * 2) (cs.drop ((i + 1) * 2)) (by omega)
      rw [hnl, ← Nat.add_mul, show i + (m - i) = m by omega] at h1
      have e : ∀ Z : List Value, (splice (splice cur (i * 2) (cs.drop ((i + 1) * 2))) (m * 2) Z).take (m * 2) = (splice cur (i * 2) (cs.drop ((i + 1) * 2))).take (m * 2) := fun Z => by
        rw [splice.eq_def (splice cur (i * 2) (cs.drop ((i + 1) * 2)))]
        exact List.take_left' (by rw [List.length_take, hl1]; omega)
      rw [e, h1]
      congr 1
      rw [← ht, List.take_take, Nat.min_eq_left (by omega)]
    · intro u hu
      rcases List.mem_append.1 hu with hu | hu
      · exact h1 u (List.mem_of_mem_take hu)
      · exact h1 u (List.mem_of_mem_drop hu)
  have HH := Lib.hid HO
  have HB := Lib.hid B2
  have hcm1 : ¬ (c = m) := by omega
  clear HO B2 R2 B1 R1 hu0 hu1 hl1 hnl hcl ht h1 hg hB hcs s2
  go_enter Tryd.func110, Tryd.ntmps110
  go_wp2_with fail
  go_region_law (refine step_append_run rfl (.tmp 22) (.tmp 25) PLT PLT rfl _ _ (by simp [Act.eval, Act.put]) (by simp [Act.eval, Act.put]) (hr1 _) ?_)
  go_wp2_with fail
  go_ret
  exact ⟨_, rfl, HH.out, HB.out⟩
end Go.Proofs.YtnegblckbomgdaaDoor.Ht
end
section
namespace Go.Proofs.YtnegblckbomgdaaDoor.Ht
open Go Go.RowKit Go.Proofs.YtnegblckbomgdaaDoor.Mem Go.Proofs.YtnegblckbomgdaaDoor.PA Go.Proofs.YtnegblckbomgdaaDoorW.PrintWords Go.Proofs.YtnegblckbomgdaaDoor.U64
attribute [local go_sem ↓] Go.wp_at_zero Go.wp_at_succ
theorem prs_set (e : Pr) : ∀ (L : List Pr) (r : Nat), prs (L.set r e) = ((prs L).set (r * 2) (.string e.1)).set (r * 2 + 1) (.int .i64 e.2)
  | [], r => rfl
  | a :: L, 0 => rfl
  | a :: L, r + 1 => by
    rw [List.set_cons_succ, prs_cons, prs_cons, prs_set e L r, show (r + 1) * 2 = r * 2 + 1 + 1 by omega]
    rfl
theorem OwnP.slk {base : Nat} {w : World} {v : Value} {n : Nat} {cs : List Value} {K : Nat → Prop} (h : OwnP base w v n cs) (hK : ∀ b, base ≤ b → K b) : SlK 2 K w v n cs := by
  have hl := h.owns.1.1
  obtain ⟨g, c, cur, rfl, hb, hg, hn, hc, hs, ht, h1⟩ := h
  refine SlK.blk hg (fun j u hj => ?_) hl hn hc h1 (hK g hb)
  have hlt := (List.getElem?_eq_some_iff.1 hj).1
  rw [← ht, List.getElem?_take_of_lt (by omega)] at hj
  exact hj
theorem take_set_lt {α : Type} (cur : List α) (n j : Nat) (u : α) (hj : j < n) : (cur.set j u).take n = (cur.take n).set j u := by
  rw [List.take_set]
theorem OwnP.put {base : Nat} {w : World} {g m cp r : Nat} {M : List Pr} (h : OwnP base w (.slice (some ⟨g, 0, none⟩) m cp) m (prs M)) (hm : M.length = m) (hr : r < m) (k : ByteArray) (x : Int) :
    OwnP base ((w.setCell ⟨g, r * 2, none⟩ (.string k)).setCell ⟨g, r * 2 + 1, none⟩ (.int .i64 x)) (.slice (some ⟨g, 0, none⟩) m cp) m (prs (M.set r (k, x))) := by
  obtain ⟨g', c, cur, he, hb, hg, hn, hc, hs, ht, h1⟩ := h
  injection he with e1 e2 e3
  injection e1 with e1
  injection e1 with e1
  subst e1 e3
  refine ⟨g, cp, _, rfl, hb, row_set (row_set hg (r * 2) (.string k)) (r * 2 + 1) (.int .i64 x), hn, hc, by simp [hs], ?_, prs_one _⟩
  rw [take_set_lt _ _ _ _ (by omega), take_set_lt _ _ _ _ (by omega), ht, prs_set]
theorem OwnP.cellsOf {base : Nat} {w : World} {g m cp : Nat} {cs : List Value} (h : OwnP base w (.slice (some ⟨g, 0, none⟩) m cp) m cs) : (∀ j, j < m * 2 → (∃ u, w.cell? ⟨g, j, none⟩ = some u) ∧ w.frozen? ⟨g, j, none⟩ = false) ∧ base ≤ g ∧ m ≤ cp ∧ cp ≤ maxLen ∧ g < w.heap.size := by
  obtain ⟨g', c, cur, he, hb, hg, hn, hc, hs, ht, h1⟩ := h
  injection he with e1 e2 e3
  injection e1 with e1
  injection e1 with e1
  subst e1 e3
  exact ⟨fun j hj => ⟨row_cell hg (by omega), blk_frozen hg _⟩, hb, hn, hc, blk_lt hg⟩
theorem OwnP.form {base : Nat} {w : World} {v : Value} {n : Nat} {cs : List Value} (h : OwnP base w v n cs) : ∃ g c, v = .slice (some ⟨g, 0, none⟩) n c := by
  obtain ⟨g, c, cur, rfl, -⟩ := h; exact ⟨g, c, rfl⟩
theorem OwnP.grown {base : Nat} {w w' : World} {v : Value} {n : Nat} {cs : List Value} (h : OwnP base w v n cs) (hb : Below w.heap.size w w') : OwnP base w' v n cs := by
  obtain ⟨g, c, cur, rfl, hbg, hg, hr⟩ := h
  exact ⟨g, c, cur, rfl, hbg, blk_below hg hb, hr⟩
set_option maxRecDepth 100000 in
set_option maxHeartbeats 4000000 in
theorem put_leaf (c : Cf) (K : Nat → Prop) (n : Nat) (p pn : Option Addr) (M : List Pr) (k : ByteArray) (x : Int) (w : World) (h : HRep c K w 0 pn M) (hS : Srt M) (hM : M ≠ []) (hn : M.length ≤ 1000000) :
    Calls Tryd.prog 75 #[.agg #[.int .u64 (U c.1), .int .i64 c.2, .int .i64 (n : Int), .pointer p], .pointer pn, .int .i64 13, .agg #[.string k, .int .i64 x]] w
      (Ret (fun v w' => ∃ q, v = .tuple #[.pointer q, .bool (lkp M k).isNone] ∧ HRep c (New K w) w' 0 q (ins M k x)) w) := by
  obtain ⟨y, hy⟩ : ∃ x, x = U c.1 := ⟨_, rfl⟩
  obtain ⟨bits, hbits⟩ : ∃ x, x = c.2 := ⟨_, rfl⟩
  rw [← hy, ← hbits]
  obtain ⟨g, s, rfl, hKg, hg, hsl⟩ := h
  obtain ⟨A, cp, rfl⟩ := hsl.form
  obtain ⟨gl, rfl, hKl, hcl⟩ := hsl.addr (List.length_pos_iff.2 hM)
  have HF := Lib.hid (fun V (hw : Below w.heap.size w V) => find_c K M hS hn _ k V (hsl.below hw))
  have HC := Lib.hid (fun V (hw : Below w.heap.size w V) => clone_c V gl M.length cp M rfl (by omega) (fun j u hj => cell_below (hcl j u hj) hw))
  obtain ⟨m, hm⟩ : ∃ m, m = M.length := ⟨_, rfl⟩
  rw [← hm] at HF HC hg
  obtain ⟨r, hr⟩ : ∃ r, r = rnk M k := ⟨_, rfl⟩
  have hrm : r ≤ m := by rw [hr, hm]; exact rnk_le _ _
  have hmI : (m : Int) ≤ 1000000 := by omega
  have hrI : (r : Int) ≤ (m : Int) := by omega
  have hr0 : (0 : Int) ≤ (r : Int) := by omega
  rw [← hr] at HF
  obtain ⟨⟨-, k1', k2⟩, -⟩ : (w.cell? ⟨g, 0, none⟩ = some (.int .u32 0) ∧ w.cell? ⟨g, 1, none⟩ = some (.slice none 0 0) ∧ w.cell? ⟨g, 2, none⟩ = some (.slice (some ⟨gl, 0, none⟩) m cp)) ∧ True := ⟨(box3 hg).1, trivial⟩
  have hglt := blk_lt hg
  clear k1'
  have B1 := blk_alloc (heap_k1 w (.cells #[.int .u64 y, .int .i64 bits, .int .i64 (n : Int), .pointer p] MT) (.cells #[.string k, .int .i64 x] PT))
  have hP := heap_k1 w (.cells #[.int .u64 y, .int .i64 bits, .int .i64 (n : Int), .pointer p] MT) (.cells #[.string k, .int .i64 x] PT)
  have hB0 : Below w.heap.size w ((w.alloc (.cells #[.int .u64 y, .int .i64 bits, .int .i64 (n : Int), .pointer p] MT)).alloc (.cells #[.string k, .int .i64 x] PT)) := ((Below.refl w.heap.size w).alloc (Nat.le_refl _) _).alloc (by simp) _
  have HS := Lib.hid hS; have HM := Lib.hid hm; have HR := Lib.hid hr
  have HG := Lib.hid hg
  clear hsl hcl hS hm hr hM hn hg B1 hy hbits
  go_enter Tryd.func75, Tryd.ntmps75
  go_wp2_with fail
  generalize (w.alloc (.cells #[.int .u64 y, .int .i64 bits, .int .i64 (n : Int), .pointer p] MT)).alloc (.cells #[.string k, .int .i64 x] PT) = W1 at hP hB0 ⊢
  have k21 := cell_below k2 hB0
  obtain ⟨⟨p0, p1⟩, -, -⟩ := box2 hP
  have HP := Lib.hid hP; have HB0 := Lib.hid hB0
  clear hP hB0
  cases hlk : lkp M k with
  | some z =>
    rw [hlk] at HF
    have hrlt : r < m := by
      have := get_rnk HS.out hlk
      rw [← HR.out] at this
      have := (List.getElem?_eq_some_iff.1 this).1
      rw [HM.out]; exact this
    have hrlI : (r : Int) < (m : Int) := by omega
    have HLK := Lib.hid hlk; clear hlk
    go_region_held3 (fun w' => w'.cell? ⟨g, 2, none⟩ = some (.slice (some ⟨gl, 0, none⟩) m cp) ∧ w'.cell? ⟨w.heap.size + 1, 0, none⟩ = some (.string k) ∧ w'.cell? ⟨w.heap.size + 1, 1, none⟩ = some (.int .i64 x))
      (first | (go_keep; done) | (refine ⟨?_, ?_, ?_⟩ <;> first | (with_reducible assumption) | (with_reducible exact cell_below k21 (by assumption)) | (with_reducible exact cell_below p0 (by assumption)) | (with_reducible exact cell_below p1 (by assumption)) | (go_keep; done)))
      (first
        | (go_at_call 79; (with_reducible refine (HF.out _ (below_trans HB0.out (Below.refl _ _).drew)).mono ?_); rintro e w2 ⟨v, rfl, rfl, hb2⟩; have hB2 : Below W1.heap.size W1 w2 := below_trans (w1 := W1.drew) (Below.refl _ _).drew hb2)
        | fail)
    obtain ⟨k22, p02, p12⟩ : w2.cell? ⟨g, 2, none⟩ = some (.slice (some ⟨gl, 0, none⟩) m cp) ∧ w2.cell? ⟨w.heap.size + 1, 0, none⟩ = some (.string k) ∧ w2.cell? ⟨w.heap.size + 1, 1, none⟩ = some (.int .i64 x) := ⟨cell_below k21 hB2, cell_below p0 hB2, cell_below p1 hB2⟩
    have HB2 := Lib.hid (below_trans HB0.out hB2)
    clear k21 p0 p1 hB2 hb2 k2
    go_wp2_with (first
      | (go_at_call 98; ((with_reducible refine (HC.out _ HB2.out).mono ?_); rintro e w3 ⟨v, rfl, hO, hb3⟩; obtain ⟨g3, c3, rfl⟩ := hO.form; obtain ⟨hf3, hg3, hm3, hc3, hl3⟩ := hO.cellsOf; obtain ⟨⟨u0, hu0⟩, fu0⟩ := hf3 (r * 2) (by omega); obtain ⟨⟨u1, hu1⟩, fu1⟩ := hf3 (r * 2 + 1) (by omega); have p03 := cell_below p02 hb3; have p13 := cell_below p12 hb3; have HO := Lib.hid hO; have HB3 := Lib.hid hb3; have hm3I : (m : Int) ≤ (c3 : Int) := (by omega); clear hO hb3 hf3))
      | fail)
    go_returns
    have hs2 := HB2.out.size
    have hO5 := OwnP.put HO.out HM.out.symm hrlt k x
    have hb5 := below_trans HB2.out ((HB3.out.setCell (p := ⟨g3, r * 2, none⟩) hg3 (.string k)).setCell (p := ⟨g3, r * 2 + 1, none⟩) hg3 (.int .i64 x))
    rw [HLK.out]
    refine ⟨_, rfl, ⟨_, rfl, ?_⟩, hb5.alloc hb5.size _⟩
    have hi := ins_set HS.out x HLK.out
    rw [← HR.out] at hi
    rw [hi]
    have hsz : ((w3.setCell ⟨g3, r * 2, none⟩ (.string k)).setCell ⟨g3, r * 2 + 1, none⟩ (.int .i64 x)).heap.size = w3.heap.size := by simp [World.size_setCell]
    have hN := blk_new ((w3.setCell ⟨g3, r * 2, none⟩ (.string k)).setCell ⟨g3, r * 2 + 1, none⟩ (.int .i64 x)) (.cells #[.int .u32 0, .slice none 0 0, .slice (some ⟨g3, 0, none⟩) m c3] NT)
    have hs5 := hb5.size
    rw [hsz] at hN hs5
    refine ⟨_, _, rfl, New.fresh hs5, hN, ?_⟩
    rw [List.length_set, ← HM.out]
    exact (hO5.grown ((Below.refl _ _).alloc (Nat.le_refl _) _)).slk fun b hb => New.fresh (Nat.le_trans hs2 hb)
  | none =>
    rw [hlk] at HF
    have HLK := Lib.hid hlk; clear hlk
    go_region_held3 (fun w' => w'.cell? ⟨g, 2, none⟩ = some (.slice (some ⟨gl, 0, none⟩) m cp) ∧ w'.cell? ⟨w.heap.size + 1, 0, none⟩ = some (.string k) ∧ w'.cell? ⟨w.heap.size + 1, 1, none⟩ = some (.int .i64 x))
      (first | (go_keep; done) | (refine ⟨?_, ?_, ?_⟩ <;> first | (with_reducible assumption) | (with_reducible exact cell_below k21 (by assumption)) | (with_reducible exact cell_below p0 (by assumption)) | (with_reducible exact cell_below p1 (by assumption)) | (go_keep; done)))
      (first
        | (go_at_call 79; (with_reducible refine (HF.out _ (below_trans HB0.out (Below.refl _ _).drew)).mono ?_); rintro e w2 ⟨v, rfl, rfl, hb2⟩; have hB2 : Below W1.heap.size W1 w2 := below_trans (w1 := W1.drew) (Below.refl _ _).drew hb2)
        | fail)
    obtain ⟨k22, p02, p12⟩ : w2.cell? ⟨g, 2, none⟩ = some (.slice (some ⟨gl, 0, none⟩) m cp) ∧ w2.cell? ⟨w.heap.size + 1, 0, none⟩ = some (.string k) ∧ w2.cell? ⟨w.heap.size + 1, 1, none⟩ = some (.int .i64 x) := ⟨cell_below k21 hB2, cell_below p0 hB2, cell_below p1 hB2⟩
    have HB2 := Lib.hid (below_trans HB0.out hB2)
    clear k21 p0 p1 hB2 hb2 k2
    go_wp2_with (first
      | (go_at_call 98; ((with_reducible refine (HC.out _ HB2.out).mono ?_); rintro e w3 ⟨v, rfl, hO, hb3⟩; obtain ⟨g3, c3, rfl⟩ := hO.form; obtain ⟨hf3, hg3, hm3, hc3, hl3⟩ := hO.cellsOf; have p03 := cell_below p02 hb3; have p13 := cell_below p12 hb3; have HO := Lib.hid hO; have HB3 := Lib.hid hb3; clear hO hb3 hf3))
      | (go_at_call 99; (refine (ins_c w2.heap.size w2 _ _ m r (prs M) hrm (by omega) (HO.out.grown ((Below.refl _ _).alloc (Nat.le_refl _) _)) w3.heap.size 1 k x PT (blk_new w3 _) (fun g c e => (by injection e with e1 e2 e3; injection e1 with e1; injection e1 with e1; omega)) (HB3.out.alloc HB3.out.size _)).mono ?_); rintro e w4 ⟨v, rfl, hO4, hb4⟩; obtain ⟨g4, c4, rfl⟩ := hO4.form; have HO4 := Lib.hid hO4; have HB4 := Lib.hid hb4; clear hO4 hb4)
      | fail)
    go_returns
    have hs2 := HB2.out.size
    have hb5 := below_trans HB2.out HB4.out
    rw [HLK.out]
    refine ⟨_, rfl, ⟨_, rfl, ?_⟩, hb5.alloc hb5.size _⟩
    have hi := ins_take HS.out x HLK.out
    rw [← HR.out] at hi
    rw [hi]
    refine ⟨_, _, rfl, New.fresh hb5.size, blk_new _ _, ?_⟩
    have hO5 := HO4.out.grown ((Below.refl _ _).alloc (Nat.le_refl _) (.cells #[.int .u32 0, .slice none 0 0, .slice (some ⟨g4, 0, none⟩) (m + 1) c4] NT))
    have e1 : prs (M.take r ++ (k, x) :: M.drop r) = (prs M).take (r * 2) ++ [.string k, .int .i64 x] ++ (prs M).drop (r * 2) := by
      rw [prs_append, prs_cons, prs_take, prs_drop]; simp [pairc]
    have e2 : (M.take r ++ (k, x) :: M.drop r).length = m + 1 := by
      have := HM.out
      simp; omega
    rw [e1, e2]
    exact hO5.slk fun b hb => New.fresh (Nat.le_trans hs2 hb)
end Go.Proofs.YtnegblckbomgdaaDoor.Ht
end
