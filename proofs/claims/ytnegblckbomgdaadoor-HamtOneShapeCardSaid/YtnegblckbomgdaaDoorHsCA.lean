/- Two maps of one hash in two boxes; the shape hangs on the keys alone. -/
import Derived.Test.YtnegblckbomgdaaDoorHsBP
set_option linter.unusedVariables false
set_option linter.unusedSimpArgs false
namespace Go.Proofs.YtnegblckbomgdaaDoor.Ht
open Go Go.RowKit Go.Shelf Go.Proofs.YtnegblckbomgdaaDoor.Mem Go.Proofs.YtnegblckbomgdaaDoor.PA Go.Proofs.YtnegblckbomgdaaDoorW.PrintWords Go.Proofs.YtnegblckbomgdaaDoor.U64 Go.Proofs.YtnegblckbomgdaaDoor

/-- a value that is a list of texts -/
def StrV (w : World) (v : Value) (l : List ByteArray) : Prop := ∃ A c, v = .slice A l.length c ∧ (0 < l.length → ∃ ad : Addr, A = some ad ∧ ∀ (j : Nat) (s : ByteArray), l[j]? = some s → w.cell? (ad.add j) = some (.string s))
theorem StrV.form {w : World} {v : Value} {l : List ByteArray} (h : StrV w v l) : ∃ A c, v = .slice A l.length c := by
  obtain ⟨A, c, h1, -⟩ := h
  exact ⟨A, c, h1⟩
theorem StrV.at {w : World} {A : Option Addr} {n c : Nat} {l : List ByteArray} (h : StrV w (.slice A n c) l) (j : Nat) (s : ByteArray) (hs : l[j]? = some s) : ∃ ad, A = some ad ∧ w.cell? (ad.add j) = some (.string s) := by
  obtain ⟨A', c', he, h2⟩ := h
  injection he with e1 e2 e3
  subst e1
  have hj := (List.getElem?_eq_some_iff.1 hs).1
  obtain ⟨ad, e, h3⟩ := h2 (by omega)
  exact ⟨ad, e, h3 j s hs⟩
theorem partT_keys (sub : List Pr → ByteArray) (i : Nat) : ∀ (G H : List Pr), G.map (·.1) = H.map (·.1) → sub G = sub H → partT sub i G = partT sub i H
  | [], [], _, _ => rfl
  | [], _ :: _, h, _ => by simp at h
  | _ :: _, [], h, _ => by simp at h
  | [_], [_], _, _ => rfl
  | [_], _ :: _ :: _, h, _ => by simp at h
  | _ :: _ :: _, [_], h, _ => by simp at h
  | e :: f :: r, e' :: f' :: r', _, hs => by show digT i ++ sub _ = digT i ++ sub _; rw [hs]
theorem grp_keys (ck : ByteArray → Nat) (i : Nat) {L M : List Pr} (h : L.map (·.1) = M.map (·.1)) : (grp ck i L).map (·.1) = (grp ck i M).map (·.1) := by
  have e : ∀ L : List Pr, (grp ck i L).map (·.1) = (L.map (·.1)).filter fun k => decide (ck k = i) := fun L => by
    unfold grp
    rw [List.filter_map]; rfl
  rw [e, e, h]
theorem foldl_ext {α β : Type} (l : List β) (f g : α → β → α) (h : ∀ a b, f a b = g a b) (a : α) : l.foldl f a = l.foldl g a := by
  rw [show f = g from funext fun a => funext fun b => h a b]
theorem shape_keys (c : Cf) : ∀ (d : Nat) (L M : List Pr), L.map (·.1) = M.map (·.1) → shapeT c d L = shapeT c d M
  | 0, L, M, h => by
    have : L.length = M.length := by simpa using congrArg List.length h
    unfold shapeT; rw [this]
  | d + 1, L, M, h => by
    unfold shapeT
    rw [foldl_ext _ _ _ (fun s i => by rw [partT_keys (shapeT c d) i _ _ (grp_keys (chk c (12 - d)) i h) (shape_keys c d _ _ (grp_keys (chk c (12 - d)) i h))])]
theorem lkp_unit (L : List Pr) (k : ByteArray) : lkp (L.map fun e => ((e.1, ()) : Ent Unit)) k = (lkp L k).map fun _ => () := by
  induction L with
  | nil => rfl
  | cons e L ih =>
    rw [List.map_cons, lkp_cons, lkp_cons, ih]
    by_cases h : e.1 = k <;> simp [h]
theorem keys_eq {L M : List Pr} (hL : Srt L) (hM : Srt M) (h : ∀ k, lkp L k ≠ none ↔ lkp M k ≠ none) : L.map (·.1) = M.map (·.1) := by
  have h1 : Srt (L.map fun e => ((e.1, ()) : Ent Unit)) := List.pairwise_map.2 hL
  have h2 : Srt (M.map fun e => ((e.1, ()) : Ent Unit)) := List.pairwise_map.2 hM
  have e := srt_ext h1 h2 fun k => by
    rw [lkp_unit, lkp_unit]
    have := h k
    cases hl : lkp L k <;> cases hm : lkp M k <;> simp [hl, hm] at this ⊢
  have := congrArg (List.map Prod.fst) e
  rw [List.map_map, List.map_map] at this
  exact this
theorem ksV_keys {L M : List Pr} (h : L.map (·.1) = M.map (·.1)) : ksV L = ksV M := by
  have e : ∀ L : List Pr, ksV L = (L.map (·.1)).map Value.string := fun L => by simp [ksV]
  rw [e, e, h]

section
variable {c : Cf} {y b : Int} {K : Nat → Prop} {h1 h2 : Nat} {n n' m : Int} {p p' q : Option Addr} {L M L' : List Pr} {V w w' w1 : World}
/-- two maps of one hash in two boxes -/
def Tw2 (c : Cf) (y b : Int) (h1 h2 : Nat) (n : Int) (p : Option Addr) (n' : Int) (p' : Option Addr) (L M : List Pr) (w : World) : Prop :=
  h1 ≠ h2 ∧ w.heap[h1]? = some (.cells #[.int .u64 y, .int .i64 b, .int .i64 n, .pointer p] MT (0, 0)) ∧ w.heap[h2]? = some (.cells #[.int .u64 y, .int .i64 b, .int .i64 n', .pointer p'] MT (0, 0)) ∧
    MapV c (fun x => x ≠ h1 ∧ x ≠ h2) w (.agg #[.int .u64 y, .int .i64 b, .int .i64 n, .pointer p]) L ∧ MapV c (fun x => x ≠ h1 ∧ x ≠ h2) w (.agg #[.int .u64 y, .int .i64 b, .int .i64 n', .pointer p']) M
theorem Tw2.below (h : Tw2 c y b h1 h2 n p n' p' L M w) (hb : Below w.heap.size w w') : Tw2 c y b h1 h2 n p n' p' L M w' :=
  ⟨h.1, blk_below h.2.1 hb, blk_below h.2.2.1 hb, h.2.2.2.1.below hb, h.2.2.2.2.below hb⟩
theorem Tw2.srt1 (h : Tw2 c y b h1 h2 n p n' p' L M w) : Srt L ∧ Sm L := by
  obtain ⟨p, -, -, h1, h2⟩ := h.2.2.2.1
  exact ⟨h1, h2⟩
theorem Tw2.srt2 (h : Tw2 c y b h1 h2 n p n' p' L M w) : Srt M ∧ Sm M := by
  obtain ⟨p, -, -, h1, h2⟩ := h.2.2.2.2
  exact ⟨h1, h2⟩
theorem tw2_start (c : Cf) (hy : U c.1 = y) (hb : c.2 = b) (h : P3 V h1 h2 y b 0 none y b 0 none w) : Tw2 c y b h1 h2 0 none 0 none [] [] w :=
  ⟨h.1, h.2.2.2.1, h.2.2.2.2.1, ⟨none, by rw [← hy, ← hb]; rfl, Or.inl ⟨rfl, rfl⟩, srt_nil, fun e he => by cases he⟩, ⟨none, by rw [← hy, ← hb]; rfl, Or.inl ⟨rfl, rfl⟩, srt_nil, fun e he => by cases he⟩⟩
theorem tw2_put1 (h : Tw2 c y b h1 h2 n p n' p' L M V) (hb1 : Below V.heap.size V w1) (hm : MapV c (New (fun x => x ≠ h1 ∧ x ≠ h2) V) w1 (.agg #[.int .u64 y, .int .i64 b, .int .i64 m, .pointer q]) L') :
    Tw2 c y b h1 h2 m q n' p' L' M (put4w w1 h1 (.int .u64 y) (.int .i64 b) (.int .i64 m) (.pointer q)) := by
  have hl1 := blk_lt h.2.1
  have hl2 := blk_lt h.2.2.1
  have n1 : ¬ (fun x => x ≠ h1 ∧ x ≠ h2) h1 := fun k => k.1 rfl
  have hm2 : MapV c (fun x => x ≠ h1 ∧ x ≠ h2) w1 _ L' := hm.mono fun x hx => hx.elim id fun hx => ⟨by omega, by omega⟩
  exact ⟨h.1, put4 (blk_below h.2.1 hb1), put4_far (blk_below h.2.2.1 hb1) (fun e => h.1 e.symm) _ _ _ _, mapv4_far hm2 n1 _ _ _ _, mapv4_far (h.2.2.2.2.below hb1) n1 _ _ _ _⟩
theorem tw2_put2 (h : Tw2 c y b h1 h2 n p n' p' L M V) (hb1 : Below V.heap.size V w1) (hm : MapV c (New (fun x => x ≠ h1 ∧ x ≠ h2) V) w1 (.agg #[.int .u64 y, .int .i64 b, .int .i64 m, .pointer q]) L') :
    Tw2 c y b h1 h2 n p m q L L' (put4w w1 h2 (.int .u64 y) (.int .i64 b) (.int .i64 m) (.pointer q)) := by
  have hl1 := blk_lt h.2.1
  have hl2 := blk_lt h.2.2.1
  have n2 : ¬ (fun x => x ≠ h1 ∧ x ≠ h2) h2 := fun k => k.2 rfl
  have hm2 : MapV c (fun x => x ≠ h1 ∧ x ≠ h2) w1 _ L' := hm.mono fun x hx => hx.elim id fun hx => ⟨by omega, by omega⟩
  exact ⟨h.1, put4_far (blk_below h.2.1 hb1) h.1 _ _ _ _, put4 (blk_below h.2.2.1 hb1), mapv4_far (h.2.2.2.1.below hb1) n2 _ _ _ _, mapv4_far hm2 n2 _ _ _ _⟩
theorem sets_mv' {n : Int} (hy : U c.1 = y) (hb : c.2 = b) (h : MapV c K V (.agg #[.int .u64 y, .int .i64 b, .int .i64 n, .pointer p]) L) (hl : L.length ≤ 1000) (k : ByteArray) (x : Int) (hk : k.size ≤ 1000000) :
    Calls Tryd.prog 25 #[.agg #[.int .u64 y, .int .i64 b, .int .i64 n, .pointer p], .string k, .int .i64 x] V (Ret (fun v' w' => ∃ n' p', v' = .agg #[.int .u64 y, .int .i64 b, .int .i64 n', .pointer p'] ∧ MapV c (New K V) w' (.agg #[.int .u64 y, .int .i64 b, .int .i64 n', .pointer p']) (ins L k x)) V) :=
  ret_of (mset_c c K _ L k x hk V h (by omega)) fun v' w' hB hv => by
    have h0 := hv
    obtain ⟨p', rfl, -⟩ := hv
    exact ⟨_, p', by rw [← hy, ← hb], by rw [← hy, ← hb]; exact h0⟩
theorem cuts_mv' {n : Int} (hy : U c.1 = y) (hb : c.2 = b) (h : MapV c K V (.agg #[.int .u64 y, .int .i64 b, .int .i64 n, .pointer p]) L) (hl : L.length ≤ 1000) (k : ByteArray) (hk : k.size ≤ 1000000) (hT : Tab V) :
    Calls Tryd.prog 28 #[.agg #[.int .u64 y, .int .i64 b, .int .i64 n, .pointer p], .string k] V (Ret (fun v' w' => ∃ n' p', v' = .agg #[.int .u64 y, .int .i64 b, .int .i64 n', .pointer p'] ∧ MapV c (New K V) w' (.agg #[.int .u64 y, .int .i64 b, .int .i64 n', .pointer p']) (del L k)) V) :=
  ret_of (mcut_c c K _ L k hk V h (by omega) hT) fun v' w' hB hv => by
    have h0 := hv
    obtain ⟨p', rfl, -⟩ := hv
    exact ⟨_, p', by rw [← hy, ← hb], by rw [← hy, ← hb]; exact h0⟩
theorem slv_far1 {v : Value} {xs : List Value} (h : SlV K w v xs) (g i : Nat) (u : Value) (hn : ¬ K g) : SlV K (w.setCell ⟨g, i, none⟩ u) v xs := h.keep fun b hb _ => Below.heap_setCell _ _ _ _ (fun e => hn (by subst e; exact hb))
theorem slv_put4 {v : Value} {xs : List Value} {g : Nat} (h : SlV K w v xs) (hn : ¬ K g) (a b e f : Value) : SlV K (put4w w g a b e f) v xs := slv_far1 (slv_far1 (slv_far1 (slv_far1 h _ 0 _ hn) _ 1 _ hn) _ 2 _ hn) _ 3 _ hn
theorem ins_len' (L : List Pr) (k : ByteArray) (x : Int) (h : Srt L) : (ins L k x).length ≤ L.length + 1 := by
  cases hk : lkp L k with
  | none => rw [ins_length_none h x hk]; exact Nat.le_refl _
  | some y => rw [ins_length_some h x hk]; exact Nat.le_succ _
end
end Go.Proofs.YtnegblckbomgdaaDoor.Ht
