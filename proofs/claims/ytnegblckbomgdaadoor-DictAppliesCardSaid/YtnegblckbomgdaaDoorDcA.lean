/- The document's answers by the order of keys: plain laws and contracts. -/
import Derived.Test.YtnegblckbomgdaaDoorDcP
set_option linter.unusedVariables false
set_option linter.unusedSimpArgs false
namespace Go.Proofs.YtnegblckbomgdaaDoor.Ht
open Go Go.RowKit Go.Shelf Go.Proofs.YtnegblckbomgdaaDoor.Mem Go.Proofs.YtnegblckbomgdaaDoor.PA Go.Proofs.YtnegblckbomgdaaDoorW.PrintWords Go.Proofs.YtnegblckbomgdaaDoor.U64 Go.Proofs.YtnegblckbomgdaaDoor.Bs Go.Proofs.YtnegblckbomgdaaDoor

/-- the key of a rank, with what it has -/
def plc (L : List Pr) (i : Int) : ByteArray × Int × Bool := if i < 0 then (⟨#[]⟩, 0, false) else match L[i.toNat]? with | some e => (e.1, e.2, true) | none => (⟨#[]⟩, 0, false)
abbrev plcV (L : List Pr) (i : Int) : Value := .tuple #[.string (plc L i).1, .int .i64 (plc L i).2.1, .bool (plc L i).2.2]
theorem plc_neg {L : List Pr} {i : Int} (h : i < 0) : plc L i = (⟨#[]⟩, 0, false) := by unfold plc; rw [if_pos h]
theorem plc_hi {L : List Pr} {i : Int} (h : (L.length : Int) ≤ i) : plc L i = (⟨#[]⟩, 0, false) := by
  unfold plc; rw [if_neg (by omega), List.getElem?_eq_none (by omega)]
theorem plc_in {L : List Pr} {i : Nat} {e : Pr} (h : L[i]? = some e) : plc L (i : Int) = (e.1, e.2, true) := by
  unfold plc; rw [if_neg (by omega), Int.toNat_natCast, h]
/-- the rank of the next key -/
def nxt (L : List Pr) (k : ByteArray) : Int := if (lkp L k).isSome = true then (rnk L k : Int) + 1 else (rnk L k : Int)

theorem rd_things' {L : List Pr} {i : Nat} {e : Pr} (h : L[i]? = some e) : rd (thingsL L) (i : Int) = e.2 := by
  simp [rd, thingsL, List.getD_eq_getElem?_getD, h]
theorem rat_f (L : List Pr) (i : Int) : placketref10_At.f (keysL L) (thingsL L) i = some (plc L i) := by
  unfold placketref10_At.f
  rw [keysL_length, thingsL_length]
  by_cases h0 : i < 0
  · rw [if_pos h0, plc_neg h0]
  · rw [if_neg h0]
    by_cases h1 : i ≥ (L.length : Int)
    · rw [if_pos h1, plc_hi h1]
    · obtain ⟨n, rfl⟩ : ∃ n : Nat, i = n := ⟨i.toNat, by omega⟩
      have he : L[n]? = some L[n] := List.getElem?_eq_getElem (by omega)
      generalize L[n] = e at he
      rw [if_neg h1, if_pos (by omega), if_pos (by omega), if_pos (by omega), rd_keys he, rd_things' he, plc_in he]

theorem rrank_loop (L : List Pr) (hS : Srt L) (hSm : Sm L) (hl : L.length ≤ 1000000) (k : ByteArray) : ∀ (d i : Nat), i + d = L.length →
    Ev (fun f => placketref10_Rank.l0 f k ((min i (rnk L k) : Nat) : Int) (keysL L) (L.length : Int) (i : Int)) ((rnk L k : Nat) : Int)
  | 0, i, hi => by
    have := rnk_le L k
    refine Ev.ge 1 fun f => ?_
    simp only [placketref10_Rank.l0]
    rw [if_neg (by omega), show min i (rnk L k) = rnk L k by omega]
  | d + 1, i, hi => by
    have hlt : i < L.length := by omega
    have he : L[i]? = some L[i] := List.getElem?_eq_getElem hlt
    generalize L[i] = e at he
    have hez : e.1.size ≤ 100000000 := Nat.le_trans (hSm e (List.mem_of_getElem? he)) (by decide)
    have hsp := rnk_lt hS he (k := k)
    have hrl := rnk_le L k
    obtain ⟨K1, h1⟩ := rorder_ev' e.1 k hez
    obtain ⟨K2, ih⟩ := rrank_loop L hS hSm hl k d (i + 1) (by omega)
    refine Ev.shift 1 ⟨max K1 K2, fun f hf => ?_⟩
    simp only [placketref10_Rank.l0]
    rw [if_pos (by omega), if_pos (by omega), if_pos (by rw [keysL_length]; omega), rd_keys he, (show placketref02_Order.f f e.1 k = some (ordB e.1 k) from h1 f (by omega)), Option.bind_some]
    by_cases hc : i < rnk L k
    · rw [if_pos (ordB_neg.2 (hsp.2 hc)), w64_succ (n := i) (by omega), w64_succ (n := min i (rnk L k)) (by omega), show min i (rnk L k) + 1 = min (i + 1) (rnk L k) by omega]
      exact ih f (by omega)
    · have ho : ¬ ordB e.1 k < 0 := fun h => hc (hsp.1 (ordB_neg.1 h))
      rw [if_neg ho, w64_succ (n := i) (by omega), show min i (rnk L k) = min (i + 1) (rnk L k) by omega]
      exact ih f (by omega)
theorem rrank_ev (L : List Pr) (hS : Srt L) (hSm : Sm L) (hl : L.length ≤ 1000000) (k : ByteArray) : Ev (fun f => placketref10_Rank.f f (keysL L) (thingsL L) k) ((rnk L k : Nat) : Int) := by
  have h := rrank_loop L hS hSm hl k L.length 0 (by omega)
  unfold placketref10_Rank.f
  rw [keysL_length]
  simpa using h

/-- is the key at its rank the key? -/
theorem key_here (L : List Pr) (hS : Srt L) (k : ByteArray) {e : Pr} (he : L[rnk L k]? = some e) : (e.1 = k) ↔ (lkp L k).isSome = true := by
  have hh := rnk_hit hS (k := k)
  rw [he] at hh
  constructor
  · intro h
    cases hk : lkp L k with
    | none => exact absurd hk (hh.1 ⟨e, rfl, h⟩)
    | some x => rfl
  · intro h
    obtain ⟨e', e1, e2⟩ := hh.2 (by intro h'; rw [h'] at h; cases h)
    cases e1; exact e2
theorem no_key (L : List Pr) (hS : Srt L) (k : ByteArray) (h : L.length ≤ rnk L k) : (lkp L k).isSome = false := by
  cases hk : lkp L k with
  | none => rfl
  | some x => have := (List.getElem?_eq_some_iff.1 (get_rnk hS hk)).1; omega
theorem toL_iff {a b : ByteArray} : a.toList = b.toList ↔ a = b := ⟨fun h => by rw [ByteArray.toList_eq, ByteArray.toList_eq] at h; exact data_inj h, fun h => by rw [h]⟩

theorem rnext_ev (L : List Pr) (hS : Srt L) (hSm : Sm L) (hl : L.length ≤ 1000000) (k : ByteArray) : Ev (fun f => placketref10_Next.f f (keysL L) (thingsL L) k) (plc L (nxt L k)) := by
  obtain ⟨K, h⟩ := rrank_ev L hS hSm hl k
  refine ⟨K, fun f hf => ?_⟩
  have hr := rnk_le L k
  show placketref10_Next.f f (keysL L) (thingsL L) k = some (plc L (nxt L k))
  unfold placketref10_Next.f
  rw [(show placketref10_Rank.f f (keysL L) (thingsL L) k = _ from h f hf), Option.bind_some, keysL_length]
  by_cases hlt : rnk L k < L.length
  · have he : L[rnk L k]? = some L[rnk L k] := List.getElem?_eq_getElem hlt
    generalize L[rnk L k] = e at he
    rw [if_pos (by omega), if_pos (by omega), rd_keys he]
    by_cases hk : (lkp L k).isSome = true
    · rw [if_pos (toL_iff.2 ((key_here L hS k he).2 hk)), w64_in (by omega) (by omega), rat_f, Option.bind_some]
      unfold nxt; rw [if_pos hk]
    · rw [if_neg (fun h' => hk ((key_here L hS k he).1 (toL_iff.1 h'))), rat_f, Option.bind_some]
      unfold nxt; rw [if_neg hk]
  · rw [if_neg (by omega), rat_f, Option.bind_some]
    unfold nxt; rw [no_key L hS k (by omega)]; rfl
theorem rprev_ev (L : List Pr) (hS : Srt L) (hSm : Sm L) (hl : L.length ≤ 1000000) (k : ByteArray) : Ev (fun f => placketref10_Prev.f f (keysL L) (thingsL L) k) (plc L ((rnk L k : Int) - 1)) := by
  obtain ⟨K, h⟩ := rrank_ev L hS hSm hl k
  refine ⟨K, fun f hf => ?_⟩
  have hr := rnk_le L k
  show placketref10_Prev.f f (keysL L) (thingsL L) k = some (plc L ((rnk L k : Int) - 1))
  unfold placketref10_Prev.f
  rw [(show placketref10_Rank.f f (keysL L) (thingsL L) k = _ from h f hf), Option.bind_some, w64_in (by omega) (by omega), rat_f, Option.bind_some]

theorem qord_f (a b : ByteArray) : quote_Order.f a b = some (ordB a b) := by
  unfold quote_Order.f ordB klt
  split
  · rfl
  · split <;> rfl
theorem below_loop (L : List Pr) (hS : Srt L) (hl : L.length ≤ 1000000) (k : ByteArray) : ∀ (d lo hi : Nat), hi - lo ≤ d → lo ≤ rnk L k → rnk L k ≤ hi → hi ≤ L.length →
    Ev (fun f => dict_below.l0 f (keysL L) k (lo : Int) (hi : Int)) ((rnk L k : Int), (lkp L k).isSome) := by
  intro d
  induction d with
  | zero =>
    intro lo hi h1 h2 h3 h4
    obtain rfl : lo = hi := by omega
    obtain rfl : lo = rnk L k := by omega
    refine Ev.ge 1 fun f => ?_
    simp only [dict_below.l0]
    rw [if_neg (by omega), keysL_length]
    by_cases hlt : rnk L k < L.length
    · have he : L[rnk L k]? = some L[rnk L k] := List.getElem?_eq_getElem hlt
      generalize L[rnk L k] = e at he
      rw [if_pos (by omega), if_pos (by omega), rd_keys he]
      congr 2
      by_cases hk : (lkp L k).isSome = true
      · rw [hk]; exact beq_iff_eq.2 (toL_iff.2 ((key_here L hS k he).2 hk))
      · rw [Bool.eq_false_iff.2 hk]
        exact beq_eq_false_iff_ne.2 fun h' => hk ((key_here L hS k he).1 (toL_iff.1 h'))
    · rw [if_neg (by omega), no_key L hS k (by omega)]
  | succ d ih =>
    intro lo hi h1 h2 h3 h4
    by_cases hlt : lo < hi
    · have hm : wrap64 (Int.tdiv (wrap64 ((lo : Int) + (hi : Int))) 2) = (((lo + hi) / 2 : Nat) : Int) := by
        rw [w64_in (n := (lo : Int) + (hi : Int)) (by omega) (by omega), Int.tdiv_eq_ediv_of_nonneg (by omega), w64_in (by omega) (by omega)]
        omega
      obtain ⟨m, hmm⟩ : ∃ m, m = (lo + hi) / 2 := ⟨_, rfl⟩
      rw [← hmm] at hm
      have he : L[m]? = some L[m] := List.getElem?_eq_getElem (by omega)
      generalize L[m] = e at he
      have hsp := rnk_lt hS he (k := k)
      by_cases hc : m < rnk L k
      · obtain ⟨K, hK⟩ := ih (m + 1) hi (by omega) (by omega) h3 h4
        refine Ev.shift 1 ⟨K, fun f hf => ?_⟩
        simp only [dict_below.l0]
        rw [hm, if_pos (by omega), if_pos (by omega), if_pos (by rw [keysL_length]; omega), rd_keys he, qord_f, Option.bind_some, if_pos (ordB_neg.2 (hsp.2 hc)), w64_succ (by omega)]
        exact hK f hf
      · obtain ⟨K, hK⟩ := ih lo m (by omega) h2 (by omega) (by omega)
        refine Ev.shift 1 ⟨K, fun f hf => ?_⟩
        simp only [dict_below.l0]
        rw [hm, if_pos (by omega), if_pos (by omega), if_pos (by rw [keysL_length]; omega), rd_keys he, qord_f, Option.bind_some, if_neg (fun h => hc (hsp.1 (ordB_neg.1 h)))]
        exact hK f hf
    · exact ih lo hi (by omega) h2 h3 h4
theorem below_ev (L : List Pr) (hS : Srt L) (hl : L.length ≤ 1000000) (k : ByteArray) : Ev (fun f => dict_below.f f (keysL L) k) ((rnk L k : Int), (lkp L k).isSome) := by
  have h := below_loop L hS hl k L.length 0 L.length (by omega) (Nat.zero_le _) (rnk_le L k) (Nat.le_refl _)
  unfold dict_below.f
  rw [keysL_length]
  exact h

/-- how many keys are below a text, and whether it is one -/
theorem below_c (K : Nat → Prop) (v : Value) (L : List Pr) (hS : Srt L) (hl : L.length ≤ 1000000) (k : ByteArray) (w : World) (h : SlV K w v (ksV L)) :
    Calls Tryd.prog 87 #[v, .string k] w (Ret (fun u _ => u = .tuple #[.int .i64 (rnk L k : Int), .bool (lkp L k).isSome]) w) := by
  obtain ⟨A1, c1, rfl⟩ := SlV.form' h
  rw [ksV_length] at h ⊢
  obtain ⟨e1, C1, b1⟩ := keys_C h
  obtain ⟨f, hf⟩ := below_ev L hS hl k
  have := dict_below.calls f A1 c1 (keysL L) k _ _ w C1 b1 (hf f (Nat.le_refl _))
  rw [← e1] at this
  exact this.mono fun e w' h => ⟨_, h.1, rfl, h.2.below⟩

section
variable (K : Nat → Prop) (v : Value) (L : List Pr) (hS : Srt L) (hSm : Sm L) (hl : L.length ≤ 1000000) (k : ByteArray) (w : World) (h : RefV K w v L)
include hS hSm hl h
theorem refrank_c : Calls Tryd.prog 48 #[v, .string k] w (Ret (fun u _ => u = .int .i64 (rnk L k : Int)) w) := by
  obtain ⟨s, t, rfl, hs, ht⟩ := h
  obtain ⟨A1, c1, rfl⟩ := SlV.form' hs
  obtain ⟨A2, c2, rfl⟩ := SlV.form' ht
  rw [ksV_length] at hs ⊢
  rw [xsV_length] at ht ⊢
  obtain ⟨e1, C1, b1⟩ := keys_C hs
  obtain ⟨e2, C2, b2⟩ := things_C ht
  obtain ⟨f, hf⟩ := rrank_ev L hS hSm hl k
  have := placketref10_Rank.calls f A1 c1 (keysL L) A2 c2 (thingsL L) k _ w C1 b1 C2 b2 (hf f (Nat.le_refl _))
  rw [← e1, ← e2] at this
  exact this.mono fun e w' h => ⟨_, h.1, rfl, h.2⟩
theorem refnext_c : Calls Tryd.prog 43 #[v, .string k] w (Ret (fun u _ => u = plcV L (nxt L k)) w) := by
  obtain ⟨s, t, rfl, hs, ht⟩ := h
  obtain ⟨A1, c1, rfl⟩ := SlV.form' hs
  obtain ⟨A2, c2, rfl⟩ := SlV.form' ht
  rw [ksV_length] at hs ⊢
  rw [xsV_length] at ht ⊢
  obtain ⟨e1, C1, b1⟩ := keys_C hs
  obtain ⟨e2, C2, b2⟩ := things_C ht
  obtain ⟨f, hf⟩ := rnext_ev L hS hSm hl k
  have := placketref10_Next.calls f A1 c1 (keysL L) A2 c2 (thingsL L) k _ _ _ w C1 b1 C2 b2 (hf f (Nat.le_refl _))
  rw [← e1, ← e2] at this
  exact this.mono fun e w' h => ⟨_, h.1, rfl, h.2⟩
theorem refprev_c : Calls Tryd.prog 45 #[v, .string k] w (Ret (fun u _ => u = plcV L ((rnk L k : Int) - 1)) w) := by
  obtain ⟨s, t, rfl, hs, ht⟩ := h
  obtain ⟨A1, c1, rfl⟩ := SlV.form' hs
  obtain ⟨A2, c2, rfl⟩ := SlV.form' ht
  rw [ksV_length] at hs ⊢
  rw [xsV_length] at ht ⊢
  obtain ⟨e1, C1, b1⟩ := keys_C hs
  obtain ⟨e2, C2, b2⟩ := things_C ht
  obtain ⟨f, hf⟩ := rprev_ev L hS hSm hl k
  have := placketref10_Prev.calls f A1 c1 (keysL L) A2 c2 (thingsL L) k _ _ _ w C1 b1 C2 b2 (hf f (Nat.le_refl _))
  rw [← e1, ← e2] at this
  exact this.mono fun e w' h => ⟨_, h.1, rfl, h.2⟩
end
theorem refplace_c (K : Nat → Prop) (v : Value) (L : List Pr) (i : Int) (w : World) (h : RefV K w v L) :
    Calls Tryd.prog 40 #[v, .int .i64 i] w (Ret (fun u _ => u = plcV L i) w) := by
  obtain ⟨s, t, rfl, hs, ht⟩ := h
  obtain ⟨A1, c1, rfl⟩ := SlV.form' hs
  obtain ⟨A2, c2, rfl⟩ := SlV.form' ht
  rw [ksV_length] at hs ⊢
  rw [xsV_length] at ht ⊢
  obtain ⟨e1, C1, b1⟩ := keys_C hs
  obtain ⟨e2, C2, b2⟩ := things_C ht
  have := placketref10_At.calls A1 c1 (keysL L) A2 c2 (thingsL L) i _ _ _ w C1 b1 C2 b2 (rat_f L i)
  rw [← e1, ← e2] at this
  exact this.mono fun e w' h => ⟨_, h.1, rfl, h.2⟩
end Go.Proofs.YtnegblckbomgdaaDoor.Ht
