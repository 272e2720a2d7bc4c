/- Two maps of two hashes with the same things. -/
import Derived.Test.YtnegblckbomgdaaDoorHs6
import Derived.Test.YtnegblckbomgdaaDoorHs7
set_option linter.unusedVariables false
set_option linter.unusedSimpArgs false
namespace Go.Proofs.YtnegblckbomgdaaDoor.Ht
open Go Go.RowKit Go.Shelf Go.Proofs.YtnegblckbomgdaaDoor.Mem Go.Proofs.YtnegblckbomgdaaDoor.PA Go.Proofs.YtnegblckbomgdaaDoorW.PrintWords Go.Proofs.YtnegblckbomgdaaDoor.U64 Go.Proofs.YtnegblckbomgdaaDoor

theorem few_b (os : List S3) (hm : os.length ≤ 9223372036854775807) : ∃ b : Bool, (b = true → os.length ≤ 120 ∧ ∀ o ∈ os, o.f0.size ≤ 200) ∧ ∀ V v, OpsV V v os → Calls Tryd.prog 18 #[v] V (Ret (fun u _ => u = .bool b) V) := by
  obtain ⟨b, ⟨K, hb⟩, hh⟩ := few_loop os hm os.length 0 (by omega)
  refine ⟨b, hh, fun V v h => ?_⟩
  obtain ⟨A, c, rfl, h2, h3⟩ := h
  exact (placketlaw09_few.calls K A c os b V h3 h2 (hb K (Nat.le_refl _))).mono fun e w' h => ⟨_, h.1, rfl, h.2⟩
theorem one_ops (o : S3) (w : World) : OpsV (w.alloc (.cells #[.string o.f0, .int .i64 o.f1, .bool o.f2] OT)) (.slice (some ⟨w.heap.size, 0, none⟩) 1 1) [o] := by
  refine ⟨_, 1, rfl, Nat.le_refl _, rfl, by simp, fun hp => ⟨_, rfl, fun j x hj => ?_⟩⟩
  have hj0 : j = 0 := by have := (List.getElem?_eq_some_iff.1 hj).1; simp at this; omega
  subst hj0
  simp at hj
  subst hj
  obtain ⟨⟨a0, a1, a2⟩, -⟩ := box3 (blk_new w (.cells #[.string o.f0, .int .i64 o.f1, .bool o.f2] OT))
  refine ⟨_, rfl, k37_mk _ _, fun i u hu => ?_⟩
  match i with
  | 0 => simp at hu; subst hu; exact a0
  | 1 => simp at hu; subst hu; exact a1
  | 2 => simp at hu; subst hu; exact a2
  | i + 3 => simp at hu

section
variable {c d : Cf} {y b y' b' : Int} {K : Nat → Prop} {h1 h2 : Nat} {n n' m m' : Int} {p p' q q' : Option Addr} {L L' : List Pr} {V w w' w1 w2 : World}
theorem put4_below {m g : Nat} {W w : World} (h : Below m W w) (hm : m ≤ g) (a b c d : Value) : Below m W (put4w w g a b c d) :=
  (((h.setCell (p := ⟨g, 0, none⟩) hm _).setCell (p := ⟨g, 1, none⟩) hm _).setCell (p := ⟨g, 2, none⟩) hm _).setCell (p := ⟨g, 3, none⟩) hm _
theorem put4_far {g h : Nat} {cs : Array Value} {t0 : TypeId} (hb : w.heap[h]? = some (.cells cs t0 (0, 0))) (hn : h ≠ g) (a b c d : Value) : (put4w w g a b c d).heap[h]? = some (.cells cs t0 (0, 0)) :=
  blk_far (blk_far (blk_far (blk_far hb (p := ⟨g, 0, none⟩) hn _) (p := ⟨g, 1, none⟩) hn _) (p := ⟨g, 2, none⟩) hn _) (p := ⟨g, 3, none⟩) hn _
theorem mapv4_far {v : Value} {g : Nat} (h : MapV c K w v L) (hn : ¬ K g) (a b e f : Value) : MapV c K (put4w w g a b e f) v L := mapv_far (mapv_far (mapv_far (mapv_far h _ 0 _ hn) _ 1 _ hn) _ 2 _ hn) _ 3 _ hn
/-- two boxes filled -/
abbrev put8 (w : World) (h1 h2 : Nat) (y b n : Int) (p : Option Addr) (y' b' n' : Int) (p' : Option Addr) : World := put4w (put4w w h1 (.int .u64 y) (.int .i64 b) (.int .i64 n) (.pointer p)) h2 (.int .u64 y') (.int .i64 b') (.int .i64 n') (.pointer p')
theorem put8_below {m : Nat} {W : World} (h : Below m W w) (hm : m ≤ h1) (hw : m ≤ h2) (y b n : Int) (p : Option Addr) (y' b' n' : Int) (p' : Option Addr) : Below m W (put8 w h1 h2 y b n p y' b' n' p') := put4_below (put4_below h hm _ _ _ _) hw _ _ _ _
theorem put8_one {e0 e1 e2 e3 : Value} (h : w.heap[h1]? = some (.cells #[e0, e1, e2, e3] MT (0, 0))) (hne : h1 ≠ h2) (y b n : Int) (p : Option Addr) (y' b' n' : Int) (p' : Option Addr) :
    (put8 w h1 h2 y b n p y' b' n' p').heap[h1]? = some (.cells #[.int .u64 y, .int .i64 b, .int .i64 n, .pointer p] MT (0, 0)) := put4_far (put4 h) hne _ _ _ _
theorem put8_two {e0 e1 e2 e3 : Value} (h : w.heap[h2]? = some (.cells #[e0, e1, e2, e3] MT (0, 0))) (hne : h1 ≠ h2) (y b n : Int) (p : Option Addr) (y' b' n' : Int) (p' : Option Addr) :
    (put8 w h1 h2 y b n p y' b' n' p').heap[h2]? = some (.cells #[.int .u64 y', .int .i64 b', .int .i64 n', .pointer p'] MT (0, 0)) := put4 (put4_far h (fun e => hne e.symm) _ _ _ _)

/-- two maps' boxes -/
def Twm (c d : Cf) (y b y' b' : Int) (h1 h2 : Nat) (n : Int) (p : Option Addr) (n' : Int) (p' : Option Addr) (L : List Pr) (w : World) : Prop :=
  h1 ≠ h2 ∧ w.heap[h1]? = some (.cells #[.int .u64 y, .int .i64 b, .int .i64 n, .pointer p] MT (0, 0)) ∧ w.heap[h2]? = some (.cells #[.int .u64 y', .int .i64 b', .int .i64 n', .pointer p'] MT (0, 0)) ∧
    MapV c (fun x => x ≠ h1 ∧ x ≠ h2) w (.agg #[.int .u64 y, .int .i64 b, .int .i64 n, .pointer p]) L ∧ MapV d (fun x => x ≠ h1 ∧ x ≠ h2) w (.agg #[.int .u64 y', .int .i64 b', .int .i64 n', .pointer p']) L
theorem Twm.below (h : Twm c d y b y' b' h1 h2 n p n' p' L w) (hb : Below w.heap.size w w') : Twm c d y b y' b' h1 h2 n p n' p' L w' :=
  ⟨h.1, blk_below h.2.1 hb, blk_below h.2.2.1 hb, h.2.2.2.1.below hb, h.2.2.2.2.below hb⟩
theorem Twm.srt (h : Twm c d y b y' b' h1 h2 n p n' p' L w) : Srt L ∧ Sm L := by
  obtain ⟨p, -, -, h1, h2⟩ := h.2.2.2.1
  exact ⟨h1, h2⟩
theorem twm_put (h : Twm c d y b y' b' h1 h2 n p n' p' L V) (hb1 : Below V.heap.size V w1) (hb2 : Below w1.heap.size w1 w2)
    (hm : MapV c (New (fun x => x ≠ h1 ∧ x ≠ h2) V) w1 (.agg #[.int .u64 y, .int .i64 b, .int .i64 m, .pointer q]) L') (hd : MapV d (New (fun x => x ≠ h1 ∧ x ≠ h2) w1) w2 (.agg #[.int .u64 y', .int .i64 b', .int .i64 m', .pointer q']) L') :
    Twm c d y b y' b' h1 h2 m q m' q' L' (put8 w2 h1 h2 y b m q y' b' m' q') := by
  have hl1 := blk_lt h.2.1
  have hl2 := blk_lt h.2.2.1
  have hs := hb1.size
  have n1 : ¬ (fun x => x ≠ h1 ∧ x ≠ h2) h1 := fun k => k.1 rfl
  have n2 : ¬ (fun x => x ≠ h1 ∧ x ≠ h2) h2 := fun k => k.2 rfl
  have hm2 : MapV c (fun x => x ≠ h1 ∧ x ≠ h2) w2 _ L' := (hm.below hb2).mono fun x hx => hx.elim id fun hx => ⟨by omega, by omega⟩
  have hd2 : MapV d (fun x => x ≠ h1 ∧ x ≠ h2) w2 _ L' := hd.mono fun x hx => hx.elim id fun hx => ⟨by omega, by omega⟩
  have h12 := below_trans hb1 hb2
  exact ⟨h.1, put8_one (blk_below h.2.1 h12) h.1 _ _ _ _ _ _ _ _, put8_two (blk_below h.2.2.1 h12) h.1 _ _ _ _ _ _ _ _, mapv4_far (mapv4_far hm2 n1 _ _ _ _) n2 _ _ _ _, mapv4_far (mapv4_far hd2 n1 _ _ _ _) n2 _ _ _ _⟩
theorem does_mv (hy : U c.1 = y) (hb : c.2 = b) (h : MapV c K V (.agg #[.int .u64 y, .int .i64 b, .int .i64 n, .pointer p]) L) (hl : L.length ≤ 1000) (o : Op1) (hk : o.k.size ≤ 1000000) (hT : Tab V) :
    Calls Tryd.prog 20 #[.agg #[.int .u64 y, .int .i64 b, .int .i64 n, .pointer p], .agg #[.string o.k, .int .i64 o.x, .bool o.cut]] V (Ret (fun v' w' => ∃ n' p', v' = .agg #[.int .u64 y, .int .i64 b, .int .i64 n', .pointer p'] ∧ MapV c (New K V) w' (.agg #[.int .u64 y, .int .i64 b, .int .i64 n', .pointer p']) (doL L o)) V) :=
  ret_of (does_c c K _ L o hk V h hl hT) fun v' w' hB hv => by
    have h0 := hv
    obtain ⟨p', rfl, -⟩ := hv
    exact ⟨_, p', by rw [← hy, ← hb], by rw [← hy, ← hb]; exact h0⟩
/-- two new boxes, filled -/
def P3 (V : World) (h1 h2 : Nat) (y b n : Int) (p : Option Addr) (y' b' n' : Int) (p' : Option Addr) (wx : World) : Prop :=
  h1 ≠ h2 ∧ V.heap.size ≤ h1 ∧ V.heap.size ≤ h2 ∧ wx.heap[h1]? = some (.cells #[.int .u64 y, .int .i64 b, .int .i64 n, .pointer p] MT (0, 0)) ∧ wx.heap[h2]? = some (.cells #[.int .u64 y', .int .i64 b', .int .i64 n', .pointer p'] MT (0, 0)) ∧ Below V.heap.size V wx
theorem p3_of {e0 e1 e2 e3 f0 f1 f2 f3 : Value} (b1 : w.heap[h1]? = some (.cells #[e0, e1, e2, e3] MT (0, 0))) (b2 : w.heap[h2]? = some (.cells #[f0, f1, f2, f3] MT (0, 0))) (hne : h1 ≠ h2) (hs1 : V.heap.size ≤ h1) (hs2 : V.heap.size ≤ h2) (hB : Below V.heap.size V w)
    (y b n : Int) (p : Option Addr) (y' b' n' : Int) (p' : Option Addr) : P3 V h1 h2 y b n p y' b' n' p' (put8 w h1 h2 y b n p y' b' n' p') :=
  ⟨hne, hs1, hs2, put8_one b1 hne _ _ _ _ _ _ _ _, put8_two b2 hne _ _ _ _ _ _ _ _, put8_below hB hs1 hs2 _ _ _ _ _ _ _ _⟩
/-- where a call's map may lie: among the old blocks, or among those that were made meanwhile -/
def Fp (s a e : Nat) : Nat → Prop := fun x => x < s ∨ (a ≤ x ∧ x < e)
theorem fp_of {v : Value} {s : Nat} (hK : ∀ x, K x → x < s) (h : MapV c (New K V) w v L) : MapV c (Fp s V.heap.size w.heap.size) w v L :=
  h.bound.mono fun x hx => hx.1.elim (fun h => Or.inl (hK x h)) fun h => Or.inr ⟨h, hx.2⟩
end
end Go.Proofs.YtnegblckbomgdaaDoor.Ht
