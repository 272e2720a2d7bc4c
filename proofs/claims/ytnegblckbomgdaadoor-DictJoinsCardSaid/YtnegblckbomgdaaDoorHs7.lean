/- Laws of the maps' code and of the words it uses, gathered out of the printed and own texts; no conditions. -/
import Derived.Test.YtnegblckbomgdaaDoorHs6
import Derived.Deep.DeepCutAuto
set_option linter.unusedVariables false
set_option linter.unusedSimpArgs false
section
namespace Go.Proofs.YtnegblckbomgdaaDoor.Ht
open Go Go.RowKit Go.Shelf Go.Proofs.YtnegblckbomgdaaDoor.Mem Go.Proofs.YtnegblckbomgdaaDoor.PA Go.Proofs.YtnegblckbomgdaaDoorW.PrintWords Go.Proofs.YtnegblckbomgdaaDoor.U64 Go.Proofs.YtnegblckbomgdaaDoor
def BrI (c : Cf) (y b : Int) (W : World) (g h1 h2 h3 h4 M k : Nat) (v60 : Value) (wr : World) : Prop :=
  ∃ i : Nat, v60 = .int .i64 (i : Int) ∧ i + k = M ∧ Six c y b W g h1 h2 h3 h4 (120 + i) (120 + i) wr
set_option maxRecDepth 100000 in
set_option maxHeartbeats 8000000 in
theorem branches_in (c : Cf) (v va vb : Value) (os la lb : List S3) (W : World) (hT : Tab W) (hO : OpsV W v os) (hA : OpsV W va la) (hB : OpsV W vb lb) (hl : os.length ≤ 120) (hla : la.length ≤ 120) (hlb : lb.length ≤ 120)
    (hk : ∀ o ∈ os, o.f0.size ≤ 200) (hka : ∀ o ∈ la, o.f0.size ≤ 200) (hkb : ∀ o ∈ lb, o.f0.size ≤ 200)
    (hf : ∀ V, Below W.heap.size W V → Calls Tryd.prog 18 #[v] V (Ret (fun u _ => u = .bool true) V))
    (hfa : ∀ V, Below W.heap.size W V → Calls Tryd.prog 18 #[va] V (Ret (fun u _ => u = .bool true) V))
    (hfb : ∀ V, Below W.heap.size W V → Calls Tryd.prog 18 #[vb] V (Ret (fun u _ => u = .bool true) V)) :
    Calls Tryd.prog 4 #[confV c, v, va, vb] W (Tru W) := by
  obtain ⟨As, cs, rfl, -⟩ := id hO
  obtain ⟨Aa, ca, rfl, -⟩ := id hA
  obtain ⟨Ab, cb, rfl, -⟩ := id hB
  obtain ⟨y, hy⟩ : ∃ y, U c.1 = y := ⟨_, rfl⟩
  obtain ⟨b, hb⟩ : ∃ b, c.2 = b := ⟨_, rfl⟩
  have HT := Lib.hid hT; have HO := Lib.hid hO; have HOA := Lib.hid hA; have HOB := Lib.hid hB; have HK := Lib.hid hk; have HKA := Lib.hid hka; have HKB := Lib.hid hkb; have HF := Lib.hid hf; have HFA := Lib.hid hfa; have HFB := Lib.hid hfb; have HY := Lib.hid hy; have HBE := Lib.hid hb
  have HLV := Lib.hid (fun V hT => live_c V hT)
  have HNW := Lib.hid (fun V => (show Calls Tryd.prog 19 #[.agg #[.int .u64 y, .int .i64 b]] V (Ret (fun v _ => v = .agg #[.int .u64 y, .int .i64 b, .int .i64 0, .pointer none]) V) from new_w y b V))
  show Calls Tryd.prog 4 #[.agg #[.int .u64 (U c.1), .int .i64 c.2], .slice As os.length cs, .slice Aa la.length ca, .slice Ab lb.length cb] W _
  rw [hy, hb]
  obtain ⟨T, hTe⟩ : ∃ T, T = os.length := ⟨_, rfl⟩
  obtain ⟨Ta, hTa⟩ : ∃ T, T = la.length := ⟨_, rfl⟩
  obtain ⟨Tb, hTb⟩ : ∃ T, T = lb.length := ⟨_, rfl⟩
  rw [← hTe] at HO HF hl ⊢
  rw [← hTa] at HOA HFA hla ⊢
  rw [← hTb] at HOB HFB hlb ⊢
  have HTE := Lib.hid hTe; have HTA := Lib.hid hTa; have HTB := Lib.hid hTb
  have hlaI : (Ta : Int) ≤ 120 := by omega
  have hlbI : (Tb : Int) ≤ 120 := by omega
  clear hT hO hA hB hk hka hkb hf hfa hfb hTe hTa hTb hy hb
  go_enter Tryd.func4, Tryd.ntmps4
  have BC0 := blk_new W (.cells #[.int .u64 y, .int .i64 b] CT)
  have hB0 := (Below.refl W.heap.size W).alloc (Nat.le_refl _) (.cells #[.int .u64 y, .int .i64 b] CT)
  go_wp2_with (first
    | (go_at_call 17; ((with_reducible refine (HLV.out _ (HT.out.below hB0)).mono ?_); rintro e w1 ⟨v, rfl, rfl, hb1⟩; have HB1 := Lib.hid (below_trans hB0 hb1); have HC1 := Lib.hid (blk_below BC0 hb1); clear hb1))
    | (go_at_call 18; ((with_reducible refine (HFB.out _ HB2b.out).mono ?_); rintro e w2c ⟨v, rfl, rfl, hb2⟩; have HB2 := Lib.hid (below_trans HB2b.out hb2); have HC2 := Lib.hid (blk_below HC2b.out hb2); obtain ⟨⟨a0, a1⟩, -⟩ := box2 HC2.out; clear hb2))
    | (go_at_call 18; ((with_reducible refine (HFA.out _ HB2a.out).mono ?_); rintro e w2b ⟨v, rfl, rfl, hb2⟩; have HB2b := Lib.hid (below_trans HB2a.out hb2); have HC2b := Lib.hid (blk_below HC2a.out hb2); clear hb2))
    | (go_at_call 18; ((with_reducible refine (HF.out _ HB1.out).mono ?_); rintro e w2a ⟨v, rfl, rfl, hb2⟩; have HB2a := Lib.hid (below_trans HB1.out hb2); have HC2a := Lib.hid (blk_below HC1.out hb2); clear hb2))
    | (go_at_call 19; ((with_reducible refine (HNW.out _).mono ?_); rintro e w3 ⟨v, rfl, rfl, hb3⟩; have HB3 := Lib.hid (below_trans HB2.out hb3); have HC3 := Lib.hid (blk_below HC2.out hb3); clear hb3))
    | fail)
  have h3s := HB3.out.size
  have HC4 := Lib.hid (blk_alloc (blk_alloc HC3.out (.cells #[.int .u64 y, .int .i64 b, .int .i64 0, .pointer none] MT)) (.cells #[.slice none 0 0, .slice none 0 0] RT))
  have HB4 := Lib.hid ((HB3.out.alloc h3s (.cells #[.int .u64 y, .int .i64 b, .int .i64 0, .pointer none] MT)).alloc (by simp; omega) (.cells #[.slice none 0 0, .slice none 0 0] RT))
  have HW4 := Lib.hid (two_start c y b HY.out HBE.out w3)
  have hgw : W.heap.size < w3.heap.size := blk_lt HC3.out
  clear BC0 hB0 h3s a0 a1 HB1 HB2 HB2a HB2b HB3 HC1 HC2 HC2a HC2b HC3
  generalize (w3.alloc (.cells #[.int .u64 y, .int .i64 b, .int .i64 0, .pointer none] MT)).alloc (.cells #[.slice none 0 0, .slice none 0 0] RT) = W4 at *
  generalize w3.heap.size = g at *
  go_loopg [40] T (fun k v40 wr => Aside (ShI c y b W g T k v40 wr))
  case atStart =>
    show ShI _ _ _ _ _ _ _ _ _
    exact ⟨0, _, _, _, _, _, rfl, by omega, by simp, HW4.out, HC4.out, HB4.out⟩
  case round =>
    obtain ⟨i, n, p, s, t, L, rfl, hiT, hLi, hTw, hC, hB⟩ := hrel.out
    clear hrel
    obtain ⟨A1, n1, c1, A2, n2, c2, rfl, rfl⟩ := hTw.form
    by_cases hlt : i < T
    · have hltI : (i : Int) < (T : Int) := by omega
      obtain ⟨o, ho⟩ : ∃ o, os[i]? = some o := ⟨_, List.getElem?_eq_getElem (by rw [← HTE.out]; exact hlt)⟩
      obtain ⟨ad, rfl, x0, x1, x2⟩ := HO.out.at i o ho
      have x0 := cell_below x0 hB
      have x1 := cell_below x1 hB
      have x2 := cell_below x2 hB
      have hok := HK.out o (List.mem_of_getElem? ho)
      obtain ⟨gk, rfl⟩ : ∃ g, gk = g + 1 := ⟨gk - 1, by omega⟩
      have hBo := blk_new wr (.cells #[.string o.f0, .int .i64 o.f1, .bool o.f2] OT)
      have hbl := (Below.refl wr.heap.size wr).alloc (Nat.le_refl _) (.cells #[.string o.f0, .int .i64 o.f1, .bool o.f2] OT)
      have HT2 := Lib.hid (hTw.below hbl); have HCV := Lib.hid (blk_below hC hbl); have HBV := Lib.hid (below_trans hB hbl); have HBO := Lib.hid hBo
      have hLl : L.length ≤ 1000 := by omega
      have HSR := Lib.hid hTw.srt
      clear hTw hC hB hBo hbl ho
      go_upto_region 8 with fail
      generalize wr.alloc (.cells #[.string o.f0, .int .i64 o.f1, .bool o.f2] OT) = V at HT2 HCV HBV HBO ⊢
      generalize wr.heap.size = gb at HBO ⊢
      have HDO := Lib.hid (does_two HY.out HBE.out (HT2.out.below ((Below.refl V.heap.size V).drew)) hLl (o1 o) (Nat.le_trans hok (by decide)) (HT.out.below (HBV.out.drew)))
      have HSH := Lib.hid (fun V' (hV : Below V.heap.size V V') => should_two HT2.out hLl (o1 o) hV)
      obtain ⟨⟨q0, q1, q2, q3⟩, -⟩ := box4 HT2.out.1
      obtain ⟨⟨q4, q5⟩, -⟩ := box2 HT2.out.2.1
      obtain ⟨⟨o0, o1', o2⟩, -⟩ := box3 HBO.out
      have hfin : ∀ (w1 w2 : World) (n' : Int) (p' : Option Addr) (s' t' : Value), Below V.heap.size V w1 → Below w1.heap.size w1 w2 →
          (((put4w w2 g (.int .u64 y) (.int .i64 b) (.int .i64 n') (.pointer p')).setCell ⟨g + 1, 0, none⟩ s').setCell ⟨g + 1, 1, none⟩ t').heap[W.heap.size]? = some (.cells #[.int .u64 y, .int .i64 b] CT (0, 0)) ∧ Below W.heap.size W (((put4w w2 g (.int .u64 y) (.int .i64 b) (.int .i64 n') (.pointer p')).setCell ⟨g + 1, 0, none⟩ s').setCell ⟨g + 1, 1, none⟩ t') := fun w1 w2 n' p' s' t' h1 h2 =>
        ⟨blk_far (blk_far (blk_far (blk_far (blk_far (blk_far (blk_below HCV.out (below_trans h1 h2)) (p := ⟨g, 0, none⟩) (show W.heap.size ≠ g by omega) _) (p := ⟨g, 1, none⟩) (show W.heap.size ≠ g by omega) _) (p := ⟨g, 2, none⟩) (show W.heap.size ≠ g by omega) _) (p := ⟨g, 3, none⟩) (show W.heap.size ≠ g by omega) _) (p := ⟨g + 1, 0, none⟩) (show W.heap.size ≠ g + 1 by omega) _) (p := ⟨g + 1, 1, none⟩) (show W.heap.size ≠ g + 1 by omega) _, two_below (by omega) HBV.out h1 h2 _ _ _ _ _ _⟩
      have HFIN := Lib.hid hfin
      clear hfin x0 x1 x2
      refine wp_region_noPanic ?_
      refine RegL.wp_region_late [6, 7] (fun (w' : World) => (w'.cell? ⟨g, 0, none⟩ = some (.int .u64 y) ∧ w'.cell? ⟨g, 1, none⟩ = some (.int .i64 b) ∧ w'.cell? ⟨g, 2, none⟩ = some (.int .i64 n) ∧ w'.cell? ⟨g, 3, none⟩ = some (.pointer p)) ∧ (w'.cell? ⟨(g + 1), 0, none⟩ = some (.slice A1 n1 c1) ∧ w'.cell? ⟨(g + 1), 1, none⟩ = some (.slice A2 n2 c2)) ∧ w'.cell? ⟨gb, 0, none⟩ = some (.string o.f0) ∧ w'.cell? ⟨gb, 1, none⟩ = some (.int .i64 o.f1) ∧ w'.cell? ⟨gb, 2, none⟩ = some (.bool o.f2)) (by kernel_rfl) ?_
      have hS0 : (fun (w' : World) => (w'.cell? ⟨g, 0, none⟩ = some (.int .u64 y) ∧ w'.cell? ⟨g, 1, none⟩ = some (.int .i64 b) ∧ w'.cell? ⟨g, 2, none⟩ = some (.int .i64 n) ∧ w'.cell? ⟨g, 3, none⟩ = some (.pointer p)) ∧ (w'.cell? ⟨(g + 1), 0, none⟩ = some (.slice A1 n1 c1) ∧ w'.cell? ⟨(g + 1), 1, none⟩ = some (.slice A2 n2 c2)) ∧ w'.cell? ⟨gb, 0, none⟩ = some (.string o.f0) ∧ w'.cell? ⟨gb, 1, none⟩ = some (.int .i64 o.f1) ∧ w'.cell? ⟨gb, 2, none⟩ = some (.bool o.f2)) V.drew := ⟨⟨q0, q1, q2, q3⟩, ⟨q4, q5⟩, o0, o1', o2⟩
      clear q0 q1 q2 q3 q4 q5 o0 o1' o2
      show RegL.wpAnyL _ _ _ _ _ _ 8 _ _ _
      refine RegL.wpAnyL_take (i := 0) (oi := ⟨some 44, Op.load 30 (Operand.tmp 9), _, _, _, _⟩) (v := ?vvr81) rfl (by kernel_rfl) (by kernel_rfl) (by kernel_rfl) (by kernel_rfl) (by kernel_rfl) (by kernel_rfl) (fun _ _ _ h => h) (Or.inl ⟨by rfl, ?hyr81⟩) hS0 ?restr81
      case hyr81 => ((intro w hSw; (try dsimp only at hSw); go_simp) <;> with_reducible rfl)
      try simp only [Act.put, List.setIfInBounds_toArray, List.set_cons_zero, List.set_cons_succ]
      refine RegL.wpAnyL_take (i := 1) (oi := ⟨some 45, Op.load 37 (Operand.tmp 12), _, _, _, _⟩) (v := ?vvr82) rfl (by kernel_rfl) (by kernel_rfl) (by kernel_rfl) (by kernel_rfl) (by kernel_rfl) (by kernel_rfl) (fun _ _ _ h => h) (Or.inl ⟨by rfl, ?hyr82⟩) hS0 ?restr82
      case hyr82 => ((intro w hSw; (try dsimp only at hSw); go_simp) <;> with_reducible rfl)
      try simp only [Act.put, List.setIfInBounds_toArray, List.set_cons_zero, List.set_cons_succ]
      refine RegL.wpAnyL_take (i := 3) (oi := ⟨some 47, Op.load 35 (Operand.tmp 10), _, _, _, _⟩) (v := ?vvr83) rfl (by kernel_rfl) (by kernel_rfl) (by kernel_rfl) (by kernel_rfl) (by kernel_rfl) (by kernel_rfl) (fun _ _ _ h => h) (Or.inl ⟨by rfl, ?hyr83⟩) hS0 ?restr83
      case hyr83 => ((intro w hSw; (try dsimp only at hSw); go_simp) <;> with_reducible rfl)
      try simp only [Act.put, List.setIfInBounds_toArray, List.set_cons_zero, List.set_cons_succ]
      refine RegL.wpAnyL_take (i := 4) (oi := ⟨some 48, Op.load 37 (Operand.tmp 12), _, _, _, _⟩) (v := ?vvr84) rfl (by kernel_rfl) (by kernel_rfl) (by kernel_rfl) (by kernel_rfl) (by kernel_rfl) (by kernel_rfl) (fun _ _ _ h => h) (Or.inl ⟨by rfl, ?hyr84⟩) hS0 ?restr84
      case hyr84 => ((intro w hSw; (try dsimp only at hSw); go_simp) <;> with_reducible rfl)
      try simp only [Act.put, List.setIfInBounds_toArray, List.set_cons_zero, List.set_cons_succ]
      refine RegL.wpAnyL_ready (rs := [2]) (by kernel_rfl) (by simp) ?_
      refine RegL.AllReadyL.calm (o := ⟨some 46, Op.call { callee := Callee.value (Operand.func 20), args := #[Operand.tmp 44, Operand.tmp 45], argTypes := #[30, 37] }, _, _, _, _⟩) rfl (fun K hK => ?_) RegL.AllReadyL.nil
      go_simp
      refine (HDO.out).mono ?_
      rintro e w1 ⟨v, rfl, ⟨n', p', rfl, hm⟩, hb1⟩
      have HB1r := Lib.hid hb1; have HM := Lib.hid hm; have HB1 := Lib.hid (below_trans (w1 := World.drew V) (Below.refl _ _).drew hb1)
      clear hm hb1
      (try dsimp only)
      refine hK.out _ _ (⟨⟨cell_below hS0.1.1 HB1r.out, cell_below hS0.1.2.1 HB1r.out, cell_below hS0.1.2.2.1 HB1r.out, cell_below hS0.1.2.2.2 HB1r.out⟩, ⟨cell_below hS0.2.1.1 HB1r.out, cell_below hS0.2.1.2 HB1r.out⟩, cell_below hS0.2.2.1 HB1r.out, cell_below hS0.2.2.2.1 HB1r.out, cell_below hS0.2.2.2.2 HB1r.out⟩) (fun hS0x => ?_)
      clear hK K
      try simp only [Act.put, List.setIfInBounds_toArray, List.set_cons_zero, List.set_cons_succ]
      refine RegL.wpAnyL_ready (rs := [5]) (by kernel_rfl) (by simp) ?_
      refine RegL.AllReadyL.calm (o := ⟨some 49, Op.call { callee := Callee.value (Operand.func 21), args := #[Operand.tmp 47, Operand.tmp 48], argTypes := #[35, 37] }, _, _, _, _⟩) rfl (fun K hK => ?_) RegL.AllReadyL.nil
      go_simp
      refine (HSH.out _ HB1.out).mono ?_
      rintro e w2 ⟨v, rfl, ⟨A3, n3, c3, A4, n4, c4, rfl, hr⟩, hb2⟩
      have HR := Lib.hid hr; have HB2 := Lib.hid hb2
      clear hr hb2
      have HTW := Lib.hid (two_put HT2.out HB1.out HB2.out HM.out HR.out)
      obtain ⟨⟨e0, e1, e2, e3⟩, f0, f1, f2, f3⟩ := box4 (blk_below HT2.out.1 (below_trans HB1.out HB2.out))
      obtain ⟨⟨r0, r1⟩, fr0, fr1⟩ := box2 (blk_below HT2.out.2.1 (below_trans HB1.out HB2.out))
      (try dsimp only)
      refine hK.out _ _ (⟨⟨cell_below hS0x.1.1 HB2.out, cell_below hS0x.1.2.1 HB2.out, cell_below hS0x.1.2.2.1 HB2.out, cell_below hS0x.1.2.2.2 HB2.out⟩, ⟨cell_below hS0x.2.1.1 HB2.out, cell_below hS0x.2.1.2 HB2.out⟩, cell_below hS0x.2.2.1 HB2.out, cell_below hS0x.2.2.2.1 HB2.out, cell_below hS0x.2.2.2.2 HB2.out⟩) (fun hS0xx => ?_)
      clear hK K
      try simp only [Act.put, List.setIfInBounds_toArray, List.set_cons_zero, List.set_cons_succ]
      refine RegL.wpAnyL_ready (rs := [6]) (by kernel_rfl) (by simp) ?_
      refine RegL.AllReadyL.late (o := ⟨none, Op.store 30 (Operand.tmp 9) (Operand.tmp 46), _, _, _, _⟩) rfl (by kernel_rfl) (fun K hK => ?_) RegL.AllReadyL.nil
      go_simp
      refine hK.out _ _ ?_
      clear hK K
      try simp only [Act.put, List.setIfInBounds_toArray, List.set_cons_zero, List.set_cons_succ]
      refine RegL.wpAnyL_ready (rs := [7]) (by kernel_rfl) (by simp) ?_
      refine RegL.AllReadyL.late (o := ⟨none, Op.store 35 (Operand.tmp 10) (Operand.tmp 49), _, _, _, _⟩) rfl (by kernel_rfl) (fun K hK => ?_) RegL.AllReadyL.nil
      go_simp
      refine hK.out _ _ ?_
      clear hK K
      try simp only [Act.put, List.setIfInBounds_toArray, List.set_cons_zero, List.set_cons_succ]
      refine RegL.wpAnyL_done (by kernel_rfl) ?_ _
      refine NoPanic.normal ?_
      (go_wp2_with fail)
      go_roundg gk
      case measure => omega
      case rel =>
        have hLn : (doL L (o1 o)).length ≤ i + 1 := Nat.le_trans (doL_length L _ HSR.out.1) (by omega)
        show ShI _ _ _ _ _ _ _ _ _
        exact ⟨i + 1, _, _, _, _, _, by first | rfl | (push_cast; rfl), by omega, hLn, HTW.out, (HFIN.out _ _ _ _ _ _ HB1.out HB2.out).1, (HFIN.out _ _ _ _ _ _ HB1.out HB2.out).2⟩
    · have HTW := Lib.hid hTw; have HBW := Lib.hid hB
      have hLn : L.length ≤ 120 := by omega
      obtain ⟨⟨q0, q1, q2, q3⟩, -⟩ := box4 hTw.1
      obtain ⟨⟨q4, q5⟩, -⟩ := box2 hTw.2.1
      have hgl : g + 1 < wr.heap.size := blk_lt hTw.2.1
      clear hTw hC hB
      go_upto_region 10 with fail
      go_cut [13, 14] from 13 (fun s13 s14 wx => ∃ h1 h2 : Nat, s13 = .pointer (some ⟨h1, 0, none⟩) ∧ s14 = .pointer (some ⟨h2, 0, none⟩) ∧ Aside (P10 g y b n p wr h1 h2 wx))
      case first =>
        have e1 := (Below.refl wr.heap.size wr).alloc (Nat.le_refl _) (.cells #[.int .u64 0, .int .i64 0, .int .i64 0, .pointer none] MT)
        have e2 := (Below.refl wr.heap.size wr).alloc (Nat.le_refl _) (.cells #[.int .u64 y, .int .i64 b, .int .i64 n, .pointer p] MT)
        have e3 := e1.alloc (by simp) (.cells #[.int .u64 0, .int .i64 0, .int .i64 0, .pointer none] MT)
        have e4 := e1.alloc (by simp) (.cells #[.int .u64 y, .int .i64 b, .int .i64 n, .pointer p] MT)
        have e5 := e2.alloc (by simp) (.cells #[.int .u64 0, .int .i64 0, .int .i64 0, .pointer none] MT)
        have s10 := cell_below q0 e1
        have s11 := cell_below q1 e1
        have s12 := cell_below q2 e1
        have s13 := cell_below q3 e1
        have s20 := cell_below q0 e2
        have s21 := cell_below q1 e2
        have s22 := cell_below q2 e2
        have s23 := cell_below q3 e2
        have s30 := cell_below q0 e3
        have s31 := cell_below q1 e3
        have s32 := cell_below q2 e3
        have s33 := cell_below q3 e3
        have s40 := cell_below q0 e4
        have s41 := cell_below q1 e4
        have s42 := cell_below q2 e4
        have s43 := cell_below q3 e4
        have s50 := cell_below q0 e5
        have s51 := cell_below q1 e5
        have s52 := cell_below q2 e5
        have s53 := cell_below q3 e5
        clear e1 e2 e3 e4 e5
        go_region
        all_goals (go_wp2_with fail)
        all_goals go_meet
        all_goals (first | exact ⟨_, _, rfl, rfl, Lib.hid (p10_one _ _ _ _ _ _)⟩ | exact ⟨_, _, rfl, rfl, Lib.hid (p10_two _ _ _ _ _ _)⟩)
      case rest =>
        obtain ⟨h1, h2, rfl, rfl, hh⟩ := hcut
        have HP := Lib.hid hh.out
        clear hh
        have q4 := cell_below q4 HP.out.2.2.2.2.2
        have q5 := cell_below q5 HP.out.2.2.2.2.2
        have hgc := HP.out.2.2.2.2.2.size
        clear q0 q1 q2 q3
        go_upto_region 11 with fail
        go_cut [15, 16] from 15 (fun s15 s16 wx => ∃ h3 h4 : Nat, s15 = .pointer (some ⟨h3, 0, none⟩) ∧ s16 = .pointer (some ⟨h4, 0, none⟩) ∧ Aside (P11 (.slice A1 n1 c1) (.slice A2 n2 c2) wc h3 h4 wx))
        case first =>
          have e1 := (Below.refl wc.heap.size wc).alloc (Nat.le_refl _) (.cells #[.slice none 0 0, .slice none 0 0] RT)
          have e2 := (Below.refl wc.heap.size wc).alloc (Nat.le_refl _) (.cells #[.slice A1 n1 c1, .slice A2 n2 c2] RT)
          have e3 := e1.alloc (by simp) (.cells #[.slice none 0 0, .slice none 0 0] RT)
          have e4 := e1.alloc (by simp) (.cells #[.slice A1 n1 c1, .slice A2 n2 c2] RT)
          have e5 := e2.alloc (by simp) (.cells #[.slice none 0 0, .slice none 0 0] RT)
          have s1 := cell_below q4 e1; have s2 := cell_below q4 e2; have s3 := cell_below q4 e3; have s4 := cell_below q4 e4; have s5 := cell_below q4 e5
          have t1 := cell_below q5 e1; have t2 := cell_below q5 e2; have t3 := cell_below q5 e3; have t4 := cell_below q5 e4; have t5 := cell_below q5 e5
          clear e1 e2 e3 e4 e5
          go_region
          all_goals (go_wp2_with fail)
          all_goals go_meet
          all_goals (first | exact ⟨_, _, rfl, rfl, Lib.hid (p11_one _ _ _)⟩ | exact ⟨_, _, rfl, rfl, Lib.hid (p11_two _ _ _)⟩)
        case rest =>
          obtain ⟨h3, h4, rfl, rfl, hh⟩ := hcut
          have HS0 := Lib.hid (six_start HTW.out hLn (Nat.le_of_lt hgw) HBW.out HP.out hh.out)
          clear hh HP q4 q5 hgc hgl HTW HBW
          obtain ⟨M, hM⟩ : ∃ M : Nat, M = max Ta Tb := ⟨_, rfl⟩
          have hM1 : (max (Ta : Int) (Tb : Int)) = (M : Int) := by omega
          have hM2 : Ta ≤ M ∧ Tb ≤ M ∧ M ≤ 120 := by omega
          clear hM
          go_wp2_with fail
          have hMI : (M : Int) ≤ 120 := by omega
          go_loopg [60] M (fun k v60 wr => Aside (BrI c y b W g h1 h2 h3 h4 M k v60 wr))
          case atStart =>
            show BrI _ _ _ _ _ _ _ _ _ _ _ _ _
            exact ⟨0, rfl, by omega, HS0.out⟩
          case round =>
            obtain ⟨i, rfl, hiM, hs⟩ := hrel.out
            have HS := Lib.hid hs
            clear hrel hs HS0 hM1
            by_cases hltM : i < M
            · have hltI : (i : Int) < (M : Int) := by omega
              obtain ⟨gk, rfl⟩ : ∃ g, gk = g + 1 := ⟨gk - 1, by omega⟩
              go_upto_if 66 with fail
              go_cut [60] from 60 to 95 (fun s60 wx => s60 = .int .i64 (i : Int) ∧ Aside (Six c y b W g h1 h2 h3 h4 (120 + i + 1) (120 + i) wx))
              case first =>
                by_cases hia : i < Ta
                · have hiaI : (i : Int) < (Ta : Int) := by omega
                  obtain ⟨n, p, A1, n1, c1, A2, n2, c2, L, hL, hx⟩ := HS.out.2.2.1
                  have HX := Lib.hid hx; clear hx
                  obtain ⟨o, ho⟩ : ∃ o, la[i]? = some o := ⟨_, List.getElem?_eq_getElem (by rw [← HTA.out]; exact hia)⟩
                  obtain ⟨ad, rfl, o0, o1', o2⟩ := HOA.out.at i o ho
                  have o0 := cell_below o0 HS.out.2.2.2.2; have o1' := cell_below o1' HS.out.2.2.2.2; have o2 := cell_below o2 HS.out.2.2.2.2
                  have hok := HKA.out o (List.mem_of_getElem? ho)
                  have HLD := Lib.hid (Nat.le_trans (doL_length L (o1 o) HX.out.srt.1) (Nat.succ_le_succ hL))
                  have hLl : L.length ≤ 1000 := by omega
                  have HDO := Lib.hid (does_bx HY.out HBE.out (HX.out.below ((Below.refl wr.heap.size wr).drew)) hLl (o1 o) (Nat.le_trans hok (by decide)) (HT.out.below (HS.out.2.2.2.2.drew)))
                  have HSH := Lib.hid (fun V' (hV : Below wr.heap.size wr V') => should_bx HX.out hLl (o1 o) hV)
                  obtain ⟨⟨q0, q1, q2, q3⟩, -⟩ := box4 HX.out.1
                  obtain ⟨⟨q4, q5⟩, -⟩ := box2 HX.out.2.1
                  have hne : h3 ≠ h1 := by have := HS.out.1; unfold Dis at this; omega
                  have hne2 : h1 ≠ h3 := fun h => hne h.symm
                  clear ho hok hL
                  go_upto_region 16 with fail
                  refine wp_region_noPanic ?_
                  refine RegL.wp_region_late [12, 13] (fun (w' : World) => (w'.cell? ⟨h1, 0, none⟩ = some (.int .u64 y) ∧ w'.cell? ⟨h1, 1, none⟩ = some (.int .i64 b) ∧ w'.cell? ⟨h1, 2, none⟩ = some (.int .i64 n) ∧ w'.cell? ⟨h1, 3, none⟩ = some (.pointer p)) ∧ (w'.cell? ⟨h3, 0, none⟩ = some (.slice A1 n1 c1) ∧ w'.cell? ⟨h3, 1, none⟩ = some (.slice A2 n2 c2)) ∧ w'.cell? (ad.add (i * 3)) = some (.string o.f0) ∧ w'.cell? ⟨(ad.add (i * 3)).block, (ad.add (i * 3)).off + 1, none⟩ = some (.int .i64 o.f1) ∧ w'.cell? ⟨(ad.add (i * 3)).block, (ad.add (i * 3)).off + 2, none⟩ = some (.bool o.f2)) (by kernel_rfl) ?_
                  have hS0 : (fun (w' : World) => (w'.cell? ⟨h1, 0, none⟩ = some (.int .u64 y) ∧ w'.cell? ⟨h1, 1, none⟩ = some (.int .i64 b) ∧ w'.cell? ⟨h1, 2, none⟩ = some (.int .i64 n) ∧ w'.cell? ⟨h1, 3, none⟩ = some (.pointer p)) ∧ (w'.cell? ⟨h3, 0, none⟩ = some (.slice A1 n1 c1) ∧ w'.cell? ⟨h3, 1, none⟩ = some (.slice A2 n2 c2)) ∧ w'.cell? (ad.add (i * 3)) = some (.string o.f0) ∧ w'.cell? ⟨(ad.add (i * 3)).block, (ad.add (i * 3)).off + 1, none⟩ = some (.int .i64 o.f1) ∧ w'.cell? ⟨(ad.add (i * 3)).block, (ad.add (i * 3)).off + 2, none⟩ = some (.bool o.f2)) wr.drew := ⟨⟨q0, q1, q2, q3⟩, ⟨q4, q5⟩, o0, o1', o2⟩
                  clear q0 q1 q2 q3 q4 q5 o0 o1' o2
                  show RegL.wpAnyL _ _ _ _ _ _ 14 _ _ _
                  refine RegL.wpAnyL_take (i := 0) (oi := ⟨some 67, Op.load 30 (Operand.tmp 13), _, _, _, _⟩) (v := ?vvra1) rfl (by kernel_rfl) (by kernel_rfl) (by kernel_rfl) (by kernel_rfl) (by kernel_rfl) (by kernel_rfl) (fun _ _ _ h => h) (Or.inl ⟨by rfl, ?hyra1⟩) hS0 ?restra1
                  case hyra1 => ((intro w hSw; (try dsimp only at hSw); go_simp) <;> with_reducible rfl)
                  try simp only [Act.put, List.setIfInBounds_toArray, List.set_cons_zero, List.set_cons_succ]
                  refine RegL.wpAnyL_take (i := 1) (oi := ⟨some 68, Op.move (Operand.tmp 2), _, _, _, _⟩) (v := ?vvra2) rfl (by kernel_rfl) (by kernel_rfl) (by kernel_rfl) (by kernel_rfl) (by kernel_rfl) (by kernel_rfl) (fun _ _ _ h => h) (Or.inl ⟨by rfl, ?hyra2⟩) hS0 ?restra2
                  case hyra2 => ((intro w hSw; (try dsimp only at hSw); go_simp) <;> with_reducible rfl)
                  try simp only [Act.put, List.setIfInBounds_toArray, List.set_cons_zero, List.set_cons_succ]
                  refine RegL.wpAnyL_take (i := 2) (oi := ⟨some 69, Op.move (Operand.tmp 17), _, _, _, _⟩) (v := ?vvra3) rfl (by kernel_rfl) (by kernel_rfl) (by kernel_rfl) (by kernel_rfl) (by kernel_rfl) (by kernel_rfl) (fun _ _ _ h => h) (Or.inl ⟨by rfl, ?hyra3⟩) hS0 ?restra3
                  case hyra3 => ((intro w hSw; (try dsimp only at hSw); go_simp) <;> with_reducible rfl)
                  try simp only [Act.put, List.setIfInBounds_toArray, List.set_cons_zero, List.set_cons_succ]
                  refine RegL.wpAnyL_take (i := 3) (oi := ⟨some 70, Op.indexAddr 25 (Operand.tmp 68) (Operand.tmp 69), _, _, _, _⟩) (v := ?vvra4) rfl (by kernel_rfl) (by kernel_rfl) (by kernel_rfl) (by kernel_rfl) (by kernel_rfl) (by kernel_rfl) (fun _ _ _ h => h) (Or.inl ⟨by rfl, ?hyra4⟩) hS0 ?restra4
                  case hyra4 => ((intro w hSw; (try dsimp only at hSw); go_simp) <;> with_reducible rfl)
                  try simp only [Act.put, List.setIfInBounds_toArray, List.set_cons_zero, List.set_cons_succ]
                  refine RegL.wpAnyL_take (i := 4) (oi := ⟨some 71, Op.load 37 (Operand.tmp 70), _, _, _, _⟩) (v := ?vvra5) rfl (by kernel_rfl) (by kernel_rfl) (by kernel_rfl) (by kernel_rfl) (by kernel_rfl) (by kernel_rfl) (fun _ _ _ h => h) (Or.inl ⟨by rfl, ?hyra5⟩) hS0 ?restra5
                  case hyra5 => ((intro w hSw; (try dsimp only at hSw); go_simp) <;> with_reducible rfl)
                  try simp only [Act.put, List.setIfInBounds_toArray, List.set_cons_zero, List.set_cons_succ]
                  refine RegL.wpAnyL_take (i := 6) (oi := ⟨some 73, Op.load 35 (Operand.tmp 15), _, _, _, _⟩) (v := ?vvra6) rfl (by kernel_rfl) (by kernel_rfl) (by kernel_rfl) (by kernel_rfl) (by kernel_rfl) (by kernel_rfl) (fun _ _ _ h => h) (Or.inl ⟨by rfl, ?hyra6⟩) hS0 ?restra6
                  case hyra6 => ((intro w hSw; (try dsimp only at hSw); go_simp) <;> with_reducible rfl)
                  try simp only [Act.put, List.setIfInBounds_toArray, List.set_cons_zero, List.set_cons_succ]
                  refine RegL.wpAnyL_take (i := 7) (oi := ⟨some 74, Op.move (Operand.tmp 2), _, _, _, _⟩) (v := ?vvra7) rfl (by kernel_rfl) (by kernel_rfl) (by kernel_rfl) (by kernel_rfl) (by kernel_rfl) (by kernel_rfl) (fun _ _ _ h => h) (Or.inl ⟨by rfl, ?hyra7⟩) hS0 ?restra7
                  case hyra7 => ((intro w hSw; (try dsimp only at hSw); go_simp) <;> with_reducible rfl)
                  try simp only [Act.put, List.setIfInBounds_toArray, List.set_cons_zero, List.set_cons_succ]
                  refine RegL.wpAnyL_take (i := 8) (oi := ⟨some 75, Op.move (Operand.tmp 17), _, _, _, _⟩) (v := ?vvra8) rfl (by kernel_rfl) (by kernel_rfl) (by kernel_rfl) (by kernel_rfl) (by kernel_rfl) (by kernel_rfl) (fun _ _ _ h => h) (Or.inl ⟨by rfl, ?hyra8⟩) hS0 ?restra8
                  case hyra8 => ((intro w hSw; (try dsimp only at hSw); go_simp) <;> with_reducible rfl)
                  try simp only [Act.put, List.setIfInBounds_toArray, List.set_cons_zero, List.set_cons_succ]
                  refine RegL.wpAnyL_take (i := 9) (oi := ⟨some 76, Op.indexAddr 25 (Operand.tmp 74) (Operand.tmp 75), _, _, _, _⟩) (v := ?vvra9) rfl (by kernel_rfl) (by kernel_rfl) (by kernel_rfl) (by kernel_rfl) (by kernel_rfl) (by kernel_rfl) (fun _ _ _ h => h) (Or.inl ⟨by rfl, ?hyra9⟩) hS0 ?restra9
                  case hyra9 => ((intro w hSw; (try dsimp only at hSw); go_simp) <;> with_reducible rfl)
                  try simp only [Act.put, List.setIfInBounds_toArray, List.set_cons_zero, List.set_cons_succ]
                  refine RegL.wpAnyL_take (i := 10) (oi := ⟨some 77, Op.load 37 (Operand.tmp 76), _, _, _, _⟩) (v := ?vvra10) rfl (by kernel_rfl) (by kernel_rfl) (by kernel_rfl) (by kernel_rfl) (by kernel_rfl) (by kernel_rfl) (fun _ _ _ h => h) (Or.inl ⟨by rfl, ?hyra10⟩) hS0 ?restra10
                  case hyra10 => ((intro w hSw; (try dsimp only at hSw); go_simp) <;> with_reducible rfl)
                  try simp only [Act.put, List.setIfInBounds_toArray, List.set_cons_zero, List.set_cons_succ]
                  refine RegL.wpAnyL_ready (rs := [5]) (by kernel_rfl) (by simp) ?_
                  refine RegL.AllReadyL.calm (o := ⟨some 72, Op.call { callee := Callee.value (Operand.func 20), args := #[Operand.tmp 67, Operand.tmp 71], argTypes := #[30, 37] }, _, _, _, _⟩) rfl (fun K hK => ?_) RegL.AllReadyL.nil
                  go_simp
                  refine (HDO.out).mono ?_
                  rintro e w1 ⟨v, rfl, ⟨n', p', rfl, hm⟩, hb1⟩
                  have HB1r := Lib.hid hb1; have HM := Lib.hid hm; have HB1 := Lib.hid (below_trans (w1 := World.drew wr) (Below.refl _ _).drew hb1)
                  clear hm hb1
                  (try dsimp only)
                  refine hK.out _ _ (⟨⟨cell_below hS0.1.1 HB1r.out, cell_below hS0.1.2.1 HB1r.out, cell_below hS0.1.2.2.1 HB1r.out, cell_below hS0.1.2.2.2 HB1r.out⟩, ⟨cell_below hS0.2.1.1 HB1r.out, cell_below hS0.2.1.2 HB1r.out⟩, cell_below hS0.2.2.1 HB1r.out, cell_below hS0.2.2.2.1 HB1r.out, cell_below hS0.2.2.2.2 HB1r.out⟩) (fun hS0x => ?_)
                  clear hK K
                  try simp only [Act.put, List.setIfInBounds_toArray, List.set_cons_zero, List.set_cons_succ]
                  refine RegL.wpAnyL_ready (rs := [11]) (by kernel_rfl) (by simp) ?_
                  refine RegL.AllReadyL.calm (o := ⟨some 78, Op.call { callee := Callee.value (Operand.func 21), args := #[Operand.tmp 73, Operand.tmp 77], argTypes := #[35, 37] }, _, _, _, _⟩) rfl (fun K hK => ?_) RegL.AllReadyL.nil
                  go_simp
                  refine (HSH.out _ HB1.out).mono ?_
                  rintro e w2 ⟨v, rfl, ⟨A3, n3, c3, A4, n4, c4, rfl, hr⟩, hb2⟩
                  have HR := Lib.hid hr; have HB2 := Lib.hid hb2
                  clear hr hb2
                  have HTW := Lib.hid (six_a HS.out HX.out HLD.out HB1.out HB2.out HM.out HR.out)
                  have z0 := blk_below HX.out.1 (below_trans HB1.out HB2.out)
                  have z1 := blk_below HX.out.2.1 (below_trans HB1.out HB2.out)
                  obtain ⟨⟨e0, e1, e2, e3⟩, f0, f1, f2, f3⟩ := box4 z0
                  obtain ⟨⟨r0, r1⟩, fr0, fr1⟩ := box2 z1
                  obtain ⟨⟨r2, r3⟩, fr2, fr3⟩ := box2 (blk_far (blk_far (blk_far (blk_far z1 (p := ⟨h1, 0, none⟩) hne (.int .u64 y)) (p := ⟨h1, 1, none⟩) hne (.int .i64 b)) (p := ⟨h1, 2, none⟩) hne (.int .i64 n')) (p := ⟨h1, 3, none⟩) hne (.pointer p'))
                  clear z0 z1
                  (try dsimp only)
                  refine hK.out _ _ (⟨⟨cell_below hS0x.1.1 HB2.out, cell_below hS0x.1.2.1 HB2.out, cell_below hS0x.1.2.2.1 HB2.out, cell_below hS0x.1.2.2.2 HB2.out⟩, ⟨cell_below hS0x.2.1.1 HB2.out, cell_below hS0x.2.1.2 HB2.out⟩, cell_below hS0x.2.2.1 HB2.out, cell_below hS0x.2.2.2.1 HB2.out, cell_below hS0x.2.2.2.2 HB2.out⟩) (fun hS0xx => ?_)
                  clear hK K
                  try simp only [Act.put, List.setIfInBounds_toArray, List.set_cons_zero, List.set_cons_succ]
                  refine RegL.wpAnyL_ready (rs := [12]) (by kernel_rfl) (by simp) ?_
                  refine RegL.AllReadyL.late (o := ⟨none, Op.store 30 (Operand.tmp 13) (Operand.tmp 72), _, _, _, _⟩) rfl (by kernel_rfl) (fun K hK => ?_) RegL.AllReadyL.nil
                  go_simp
                  refine hK.out _ _ ?_
                  clear hK K
                  try simp only [Act.put, List.setIfInBounds_toArray, List.set_cons_zero, List.set_cons_succ]
                  refine RegL.wpAnyL_ready (rs := [13]) (by kernel_rfl) (by simp) ?_
                  refine RegL.AllReadyL.late (o := ⟨none, Op.store 35 (Operand.tmp 15) (Operand.tmp 78), _, _, _, _⟩) rfl (by kernel_rfl) (fun K hK => ?_) RegL.AllReadyL.nil
                  go_simp
                  refine hK.out _ _ ?_
                  clear hK K
                  try simp only [Act.put, List.setIfInBounds_toArray, List.set_cons_zero, List.set_cons_succ]
                  refine RegL.wpAnyL_done (by kernel_rfl) ?_ _
                  refine NoPanic.normal ?_
                  (go_wp2_with fail)
                  go_meet
                  exact ⟨rfl, HTW⟩
                · have hiaN : ¬ (i : Int) < (Ta : Int) := by omega
                  go_wp2_with fail
                  go_meet
                  exact ⟨rfl, Lib.hid (HS.out.le (Nat.le_succ _) (Nat.le_refl _))⟩
              case rest =>
                obtain ⟨rfl, hh⟩ := hcut
                have HS := Lib.hid hh.out
                clear hh
                go_upto_if 82 with fail
                by_cases hib : i < Tb
                · have hibI : (i : Int) < (Tb : Int) := by omega
                  obtain ⟨n, p, A1, n1, c1, A2, n2, c2, L, hL, hx⟩ := HS.out.2.2.2.1
                  have HX := Lib.hid hx; clear hx
                  obtain ⟨o, ho⟩ : ∃ o, lb[i]? = some o := ⟨_, List.getElem?_eq_getElem (by rw [← HTB.out]; exact hib)⟩
                  obtain ⟨ad, rfl, o0, o1', o2⟩ := HOB.out.at i o ho
                  have o0 := cell_below o0 HS.out.2.2.2.2; have o1' := cell_below o1' HS.out.2.2.2.2; have o2 := cell_below o2 HS.out.2.2.2.2
                  have hok := HKB.out o (List.mem_of_getElem? ho)
                  have HLD := Lib.hid (Nat.le_trans (doL_length L (o1 o) HX.out.srt.1) (Nat.succ_le_succ hL))
                  have hLl : L.length ≤ 1000 := by omega
                  have HDO := Lib.hid (does_bx HY.out HBE.out (HX.out.below ((Below.refl wc.heap.size wc).drew)) hLl (o1 o) (Nat.le_trans hok (by decide)) (HT.out.below (HS.out.2.2.2.2.drew)))
                  have HSH := Lib.hid (fun V' (hV : Below wc.heap.size wc V') => should_bx HX.out hLl (o1 o) hV)
                  obtain ⟨⟨q0, q1, q2, q3⟩, -⟩ := box4 HX.out.1
                  obtain ⟨⟨q4, q5⟩, -⟩ := box2 HX.out.2.1
                  have hne : h4 ≠ h2 := by have := HS.out.1; unfold Dis at this; omega
                  have hne2 : h2 ≠ h4 := fun h => hne h.symm
                  clear ho hok hL
                  go_upto_region 18 with fail
                  refine wp_region_noPanic ?_
                  refine RegL.wp_region_late [12, 13] (fun (w' : World) => (w'.cell? ⟨h2, 0, none⟩ = some (.int .u64 y) ∧ w'.cell? ⟨h2, 1, none⟩ = some (.int .i64 b) ∧ w'.cell? ⟨h2, 2, none⟩ = some (.int .i64 n) ∧ w'.cell? ⟨h2, 3, none⟩ = some (.pointer p)) ∧ (w'.cell? ⟨h4, 0, none⟩ = some (.slice A1 n1 c1) ∧ w'.cell? ⟨h4, 1, none⟩ = some (.slice A2 n2 c2)) ∧ w'.cell? (ad.add (i * 3)) = some (.string o.f0) ∧ w'.cell? ⟨(ad.add (i * 3)).block, (ad.add (i * 3)).off + 1, none⟩ = some (.int .i64 o.f1) ∧ w'.cell? ⟨(ad.add (i * 3)).block, (ad.add (i * 3)).off + 2, none⟩ = some (.bool o.f2)) (by kernel_rfl) ?_
                  have hS0 : (fun (w' : World) => (w'.cell? ⟨h2, 0, none⟩ = some (.int .u64 y) ∧ w'.cell? ⟨h2, 1, none⟩ = some (.int .i64 b) ∧ w'.cell? ⟨h2, 2, none⟩ = some (.int .i64 n) ∧ w'.cell? ⟨h2, 3, none⟩ = some (.pointer p)) ∧ (w'.cell? ⟨h4, 0, none⟩ = some (.slice A1 n1 c1) ∧ w'.cell? ⟨h4, 1, none⟩ = some (.slice A2 n2 c2)) ∧ w'.cell? (ad.add (i * 3)) = some (.string o.f0) ∧ w'.cell? ⟨(ad.add (i * 3)).block, (ad.add (i * 3)).off + 1, none⟩ = some (.int .i64 o.f1) ∧ w'.cell? ⟨(ad.add (i * 3)).block, (ad.add (i * 3)).off + 2, none⟩ = some (.bool o.f2)) wc.drew := ⟨⟨q0, q1, q2, q3⟩, ⟨q4, q5⟩, o0, o1', o2⟩
                  clear q0 q1 q2 q3 q4 q5 o0 o1' o2
                  show RegL.wpAnyL _ _ _ _ _ _ 14 _ _ _
                  refine RegL.wpAnyL_take (i := 0) (oi := ⟨some 83, Op.load 30 (Operand.tmp 14), _, _, _, _⟩) (v := ?vvrb1) rfl (by kernel_rfl) (by kernel_rfl) (by kernel_rfl) (by kernel_rfl) (by kernel_rfl) (by kernel_rfl) (fun _ _ _ h => h) (Or.inl ⟨by rfl, ?hyrb1⟩) hS0 ?restrb1
                  case hyrb1 => ((intro w hSw; (try dsimp only at hSw); go_simp) <;> with_reducible rfl)
                  try simp only [Act.put, List.setIfInBounds_toArray, List.set_cons_zero, List.set_cons_succ]
                  refine RegL.wpAnyL_take (i := 1) (oi := ⟨some 84, Op.move (Operand.tmp 3), _, _, _, _⟩) (v := ?vvrb2) rfl (by kernel_rfl) (by kernel_rfl) (by kernel_rfl) (by kernel_rfl) (by kernel_rfl) (by kernel_rfl) (fun _ _ _ h => h) (Or.inl ⟨by rfl, ?hyrb2⟩) hS0 ?restrb2
                  case hyrb2 => ((intro w hSw; (try dsimp only at hSw); go_simp) <;> with_reducible rfl)
                  try simp only [Act.put, List.setIfInBounds_toArray, List.set_cons_zero, List.set_cons_succ]
                  refine RegL.wpAnyL_take (i := 2) (oi := ⟨some 85, Op.move (Operand.tmp 17), _, _, _, _⟩) (v := ?vvrb3) rfl (by kernel_rfl) (by kernel_rfl) (by kernel_rfl) (by kernel_rfl) (by kernel_rfl) (by kernel_rfl) (fun _ _ _ h => h) (Or.inl ⟨by rfl, ?hyrb3⟩) hS0 ?restrb3
                  case hyrb3 => ((intro w hSw; (try dsimp only at hSw); go_simp) <;> with_reducible rfl)
                  try simp only [Act.put, List.setIfInBounds_toArray, List.set_cons_zero, List.set_cons_succ]
                  refine RegL.wpAnyL_take (i := 3) (oi := ⟨some 86, Op.indexAddr 25 (Operand.tmp 84) (Operand.tmp 85), _, _, _, _⟩) (v := ?vvrb4) rfl (by kernel_rfl) (by kernel_rfl) (by kernel_rfl) (by kernel_rfl) (by kernel_rfl) (by kernel_rfl) (fun _ _ _ h => h) (Or.inl ⟨by rfl, ?hyrb4⟩) hS0 ?restrb4
                  case hyrb4 => ((intro w hSw; (try dsimp only at hSw); go_simp) <;> with_reducible rfl)
                  try simp only [Act.put, List.setIfInBounds_toArray, List.set_cons_zero, List.set_cons_succ]
                  refine RegL.wpAnyL_take (i := 4) (oi := ⟨some 87, Op.load 37 (Operand.tmp 86), _, _, _, _⟩) (v := ?vvrb5) rfl (by kernel_rfl) (by kernel_rfl) (by kernel_rfl) (by kernel_rfl) (by kernel_rfl) (by kernel_rfl) (fun _ _ _ h => h) (Or.inl ⟨by rfl, ?hyrb5⟩) hS0 ?restrb5
                  case hyrb5 => ((intro w hSw; (try dsimp only at hSw); go_simp) <;> with_reducible rfl)
                  try simp only [Act.put, List.setIfInBounds_toArray, List.set_cons_zero, List.set_cons_succ]
                  refine RegL.wpAnyL_take (i := 6) (oi := ⟨some 89, Op.load 35 (Operand.tmp 16), _, _, _, _⟩) (v := ?vvrb6) rfl (by kernel_rfl) (by kernel_rfl) (by kernel_rfl) (by kernel_rfl) (by kernel_rfl) (by kernel_rfl) (fun _ _ _ h => h) (Or.inl ⟨by rfl, ?hyrb6⟩) hS0 ?restrb6
                  case hyrb6 => ((intro w hSw; (try dsimp only at hSw); go_simp) <;> with_reducible rfl)
                  try simp only [Act.put, List.setIfInBounds_toArray, List.set_cons_zero, List.set_cons_succ]
                  refine RegL.wpAnyL_take (i := 7) (oi := ⟨some 90, Op.move (Operand.tmp 3), _, _, _, _⟩) (v := ?vvrb7) rfl (by kernel_rfl) (by kernel_rfl) (by kernel_rfl) (by kernel_rfl) (by kernel_rfl) (by kernel_rfl) (fun _ _ _ h => h) (Or.inl ⟨by rfl, ?hyrb7⟩) hS0 ?restrb7
                  case hyrb7 => ((intro w hSw; (try dsimp only at hSw); go_simp) <;> with_reducible rfl)
                  try simp only [Act.put, List.setIfInBounds_toArray, List.set_cons_zero, List.set_cons_succ]
                  refine RegL.wpAnyL_take (i := 8) (oi := ⟨some 91, Op.move (Operand.tmp 17), _, _, _, _⟩) (v := ?vvrb8) rfl (by kernel_rfl) (by kernel_rfl) (by kernel_rfl) (by kernel_rfl) (by kernel_rfl) (by kernel_rfl) (fun _ _ _ h => h) (Or.inl ⟨by rfl, ?hyrb8⟩) hS0 ?restrb8
                  case hyrb8 => ((intro w hSw; (try dsimp only at hSw); go_simp) <;> with_reducible rfl)
                  try simp only [Act.put, List.setIfInBounds_toArray, List.set_cons_zero, List.set_cons_succ]
                  refine RegL.wpAnyL_take (i := 9) (oi := ⟨some 92, Op.indexAddr 25 (Operand.tmp 90) (Operand.tmp 91), _, _, _, _⟩) (v := ?vvrb9) rfl (by kernel_rfl) (by kernel_rfl) (by kernel_rfl) (by kernel_rfl) (by kernel_rfl) (by kernel_rfl) (fun _ _ _ h => h) (Or.inl ⟨by rfl, ?hyrb9⟩) hS0 ?restrb9
                  case hyrb9 => ((intro w hSw; (try dsimp only at hSw); go_simp) <;> with_reducible rfl)
                  try simp only [Act.put, List.setIfInBounds_toArray, List.set_cons_zero, List.set_cons_succ]
                  refine RegL.wpAnyL_take (i := 10) (oi := ⟨some 93, Op.load 37 (Operand.tmp 92), _, _, _, _⟩) (v := ?vvrb10) rfl (by kernel_rfl) (by kernel_rfl) (by kernel_rfl) (by kernel_rfl) (by kernel_rfl) (by kernel_rfl) (fun _ _ _ h => h) (Or.inl ⟨by rfl, ?hyrb10⟩) hS0 ?restrb10
                  case hyrb10 => ((intro w hSw; (try dsimp only at hSw); go_simp) <;> with_reducible rfl)
                  try simp only [Act.put, List.setIfInBounds_toArray, List.set_cons_zero, List.set_cons_succ]
                  refine RegL.wpAnyL_ready (rs := [5]) (by kernel_rfl) (by simp) ?_
                  refine RegL.AllReadyL.calm (o := ⟨some 88, Op.call { callee := Callee.value (Operand.func 20), args := #[Operand.tmp 83, Operand.tmp 87], argTypes := #[30, 37] }, _, _, _, _⟩) rfl (fun K hK => ?_) RegL.AllReadyL.nil
                  go_simp
                  refine (HDO.out).mono ?_
                  rintro e w1 ⟨v, rfl, ⟨n', p', rfl, hm⟩, hb1⟩
                  have HB1r := Lib.hid hb1; have HM := Lib.hid hm; have HB1 := Lib.hid (below_trans (w1 := World.drew wc) (Below.refl _ _).drew hb1)
                  clear hm hb1
                  (try dsimp only)
                  refine hK.out _ _ (⟨⟨cell_below hS0.1.1 HB1r.out, cell_below hS0.1.2.1 HB1r.out, cell_below hS0.1.2.2.1 HB1r.out, cell_below hS0.1.2.2.2 HB1r.out⟩, ⟨cell_below hS0.2.1.1 HB1r.out, cell_below hS0.2.1.2 HB1r.out⟩, cell_below hS0.2.2.1 HB1r.out, cell_below hS0.2.2.2.1 HB1r.out, cell_below hS0.2.2.2.2 HB1r.out⟩) (fun hS0x => ?_)
                  clear hK K
                  try simp only [Act.put, List.setIfInBounds_toArray, List.set_cons_zero, List.set_cons_succ]
                  refine RegL.wpAnyL_ready (rs := [11]) (by kernel_rfl) (by simp) ?_
                  refine RegL.AllReadyL.calm (o := ⟨some 94, Op.call { callee := Callee.value (Operand.func 21), args := #[Operand.tmp 89, Operand.tmp 93], argTypes := #[35, 37] }, _, _, _, _⟩) rfl (fun K hK => ?_) RegL.AllReadyL.nil
                  go_simp
                  refine (HSH.out _ HB1.out).mono ?_
                  rintro e w2 ⟨v, rfl, ⟨A3, n3, c3, A4, n4, c4, rfl, hr⟩, hb2⟩
                  have HR := Lib.hid hr; have HB2 := Lib.hid hb2
                  clear hr hb2
                  have HTW := Lib.hid (six_b HS.out HX.out HLD.out HB1.out HB2.out HM.out HR.out)
                  have z0 := blk_below HX.out.1 (below_trans HB1.out HB2.out)
                  have z1 := blk_below HX.out.2.1 (below_trans HB1.out HB2.out)
                  obtain ⟨⟨e0, e1, e2, e3⟩, f0, f1, f2, f3⟩ := box4 z0
                  obtain ⟨⟨r0, r1⟩, fr0, fr1⟩ := box2 z1
                  obtain ⟨⟨r2, r3⟩, fr2, fr3⟩ := box2 (blk_far (blk_far (blk_far (blk_far z1 (p := ⟨h2, 0, none⟩) hne (.int .u64 y)) (p := ⟨h2, 1, none⟩) hne (.int .i64 b)) (p := ⟨h2, 2, none⟩) hne (.int .i64 n')) (p := ⟨h2, 3, none⟩) hne (.pointer p'))
                  clear z0 z1
                  (try dsimp only)
                  refine hK.out _ _ (⟨⟨cell_below hS0x.1.1 HB2.out, cell_below hS0x.1.2.1 HB2.out, cell_below hS0x.1.2.2.1 HB2.out, cell_below hS0x.1.2.2.2 HB2.out⟩, ⟨cell_below hS0x.2.1.1 HB2.out, cell_below hS0x.2.1.2 HB2.out⟩, cell_below hS0x.2.2.1 HB2.out, cell_below hS0x.2.2.2.1 HB2.out, cell_below hS0x.2.2.2.2 HB2.out⟩) (fun hS0xx => ?_)
                  clear hK K
                  try simp only [Act.put, List.setIfInBounds_toArray, List.set_cons_zero, List.set_cons_succ]
                  refine RegL.wpAnyL_ready (rs := [12]) (by kernel_rfl) (by simp) ?_
                  refine RegL.AllReadyL.late (o := ⟨none, Op.store 30 (Operand.tmp 14) (Operand.tmp 88), _, _, _, _⟩) rfl (by kernel_rfl) (fun K hK => ?_) RegL.AllReadyL.nil
                  go_simp
                  refine hK.out _ _ ?_
                  clear hK K
                  try simp only [Act.put, List.setIfInBounds_toArray, List.set_cons_zero, List.set_cons_succ]
                  refine RegL.wpAnyL_ready (rs := [13]) (by kernel_rfl) (by simp) ?_
                  refine RegL.AllReadyL.late (o := ⟨none, Op.store 35 (Operand.tmp 16) (Operand.tmp 94), _, _, _, _⟩) rfl (by kernel_rfl) (fun K hK => ?_) RegL.AllReadyL.nil
                  go_simp
                  refine hK.out _ _ ?_
                  clear hK K
                  try simp only [Act.put, List.setIfInBounds_toArray, List.set_cons_zero, List.set_cons_succ]
                  refine RegL.wpAnyL_done (by kernel_rfl) ?_ _
                  refine NoPanic.normal ?_
                  (go_wp2_with fail)
                  go_roundg gk
                  case measure => omega
                  case rel =>
                    show BrI _ _ _ _ _ _ _ _ _ _ _ _ _
                    exact ⟨i + 1, by first | rfl | (push_cast; rfl), by omega, HTW.out⟩
                · have hibN : ¬ (i : Int) < (Tb : Int) := by omega
                  go_wp2_with fail
                  go_roundg gk
                  case measure => omega
                  case rel =>
                    show BrI _ _ _ _ _ _ _ _ _ _ _ _ _
                    exact ⟨i + 1, by first | rfl | (push_cast; rfl), by omega, HS.out.le (Nat.le_refl _) (Nat.le_succ _)⟩
            · obtain ⟨na, pa, A1, n1, c1, A2, n2, c2, x1, x2, hsa⟩ := bm_same HS.out.2.2.1 (by omega)
              obtain ⟨nb, pb, A3, n3, c3, A4, n4, c4, x3, x4, hsb⟩ := bm_same HS.out.2.2.2.1 (by omega)
              obtain ⟨nc, pc, A5, n5, c5, A6, n6, c6, x5, x6, hsc⟩ := bm_same HS.out.2.1 (by omega)
              have HSA := Lib.hid hsa; have HSB := Lib.hid hsb; have HSC := Lib.hid hsc
              have X3 := Lib.hid x3; have X4 := Lib.hid x4; have X5 := Lib.hid x5; have X6 := Lib.hid x6
              obtain ⟨⟨a0, a1, a2, a3⟩, -⟩ := box4 x1
              obtain ⟨⟨r0, r1⟩, -⟩ := box2 x2
              clear hsa hsb hsc x1 x2 x3 x4 x5 x6
              have HBW := Lib.hid HS.out.2.2.2.2
              go_wp2_with (first
                | (go_at_call 24; ((with_reducible refine (HSA.out _ (Below.refl _ _) (HT.out.below HBW.out)).mono ?_); rintro e w5 ⟨v, rfl, rfl, hb5⟩; obtain ⟨⟨a4, a5, a6, a7⟩, -⟩ := box4 (blk_below X3.out hb5); obtain ⟨⟨r4, r5⟩, -⟩ := box2 (blk_below X4.out hb5); have H5 := Lib.hid hb5; clear hb5))
                | (go_at_call 24; ((with_reducible refine (HSB.out _ H5.out (HT.out.below (below_trans HBW.out H5.out))).mono ?_); rintro e w6 ⟨v, rfl, rfl, hb6⟩; have H6 := Lib.hid (below_trans H5.out hb6); obtain ⟨⟨b4, b5, b6, b7⟩, -⟩ := box4 (blk_below X5.out H6.out); obtain ⟨⟨s4, s5⟩, -⟩ := box2 (blk_below X6.out H6.out); clear hb6))
                | (go_at_call 24; ((with_reducible refine (HSC.out _ H6.out (HT.out.below (below_trans HBW.out H6.out))).mono ?_); rintro e w7 ⟨v, rfl, rfl, hb7⟩; have H7 := Lib.hid (below_trans H6.out hb7); clear hb7))
                | fail)
              go_returns
              exact ⟨rfl, below_trans HBW.out H7.out⟩
end Go.Proofs.YtnegblckbomgdaaDoor.Ht
end
section
namespace Go.Proofs.YtnegblckbomgdaaDoor.Ht
open Go Go.RowKit Go.Shelf Go.Proofs.YtnegblckbomgdaaDoor.Mem Go.Proofs.YtnegblckbomgdaaDoor.PA Go.Proofs.YtnegblckbomgdaaDoorW.PrintWords Go.Proofs.YtnegblckbomgdaaDoor.U64 Go.Proofs.YtnegblckbomgdaaDoor
set_option maxHeartbeats 4000000 in
theorem branches_out (c : Cf) (v va vb : Value) (T Ta Tb : Nat) (A Aa Ab : Option Addr) (cs ca cb : Nat) (b1 b2 b3 : Bool) (W : World) (hv : v = .slice A T cs) (hva : va = .slice Aa Ta ca) (hvb : vb = .slice Ab Tb cb) (hT : Tab W)
    (hn : b1 = false ∨ (b1 = true ∧ b2 = false) ∨ (b1 = true ∧ b2 = true ∧ b3 = false))
    (hf : ∀ V, Below W.heap.size W V → Calls Tryd.prog 18 #[v] V (Ret (fun u _ => u = .bool b1) V))
    (hfa : ∀ V, Below W.heap.size W V → Calls Tryd.prog 18 #[va] V (Ret (fun u _ => u = .bool b2) V))
    (hfb : ∀ V, Below W.heap.size W V → Calls Tryd.prog 18 #[vb] V (Ret (fun u _ => u = .bool b3) V)) :
    Calls Tryd.prog 4 #[confV c, v, va, vb] W (Tru W) := by
  subst hv hva hvb
  have HT := Lib.hid hT; have HF := Lib.hid hf; have HFA := Lib.hid hfa; have HFB := Lib.hid hfb
  have HLV := Lib.hid (fun V hT => live_c V hT)
  show Calls Tryd.prog 4 #[.agg #[.int .u64 (U c.1), .int .i64 c.2], .slice A T cs, .slice Aa Ta ca, .slice Ab Tb cb] W _
  generalize U c.1 = y
  generalize c.2 = b
  clear hT hf hfa hfb
  rcases hn with rfl | ⟨rfl, rfl⟩ | ⟨rfl, rfl, rfl⟩
  · go_enter Tryd.func4, Tryd.ntmps4
    have hB0 := (Below.refl W.heap.size W).alloc (Nat.le_refl _) (.cells #[.int .u64 y, .int .i64 b] CT)
    go_wp2_with (first
      | (go_at_call 18; ((with_reducible refine (HF.out _ HB1.out).mono ?_); rintro e w2 ⟨v, rfl, rfl, hb2⟩; have HB2 := Lib.hid (below_trans HB1.out hb2); clear hb2))
      | (go_at_call 17; ((with_reducible refine (HLV.out _ (HT.out.below HB2.out)).mono ?_); rintro e w3 ⟨v, rfl, rfl, hb3⟩; have HB3 := Lib.hid (below_trans HB2.out hb3); clear hb3))
      | (go_at_call 17; ((with_reducible refine (HLV.out _ (HT.out.below hB0)).mono ?_); rintro e w1 ⟨v, rfl, rfl, hb1⟩; have HB1 := Lib.hid (below_trans hB0 hb1); clear hb1))
      | fail)
    go_returns
    exact ⟨rfl, HB3.out⟩
  · go_enter Tryd.func4, Tryd.ntmps4
    have hB0 := (Below.refl W.heap.size W).alloc (Nat.le_refl _) (.cells #[.int .u64 y, .int .i64 b] CT)
    go_wp2_with (first
      | (go_at_call 18; ((with_reducible refine (HFA.out _ HB1a.out).mono ?_); rintro e w2 ⟨v, rfl, rfl, hb2⟩; have HB2 := Lib.hid (below_trans HB1a.out hb2); clear hb2))
      | (go_at_call 18; ((with_reducible refine (HF.out _ HB1.out).mono ?_); rintro e w1a ⟨v, rfl, rfl, hb2⟩; have HB1a := Lib.hid (below_trans HB1.out hb2); clear hb2))
      | (go_at_call 17; ((with_reducible refine (HLV.out _ (HT.out.below HB2.out)).mono ?_); rintro e w3 ⟨v, rfl, rfl, hb3⟩; have HB3 := Lib.hid (below_trans HB2.out hb3); clear hb3))
      | (go_at_call 17; ((with_reducible refine (HLV.out _ (HT.out.below hB0)).mono ?_); rintro e w1 ⟨v, rfl, rfl, hb1⟩; have HB1 := Lib.hid (below_trans hB0 hb1); clear hb1))
      | fail)
    go_returns
    exact ⟨rfl, HB3.out⟩
  · go_enter Tryd.func4, Tryd.ntmps4
    have hB0 := (Below.refl W.heap.size W).alloc (Nat.le_refl _) (.cells #[.int .u64 y, .int .i64 b] CT)
    go_wp2_with (first
      | (go_at_call 18; ((with_reducible refine (HFB.out _ HB1b.out).mono ?_); rintro e w2 ⟨v, rfl, rfl, hb2⟩; have HB2 := Lib.hid (below_trans HB1b.out hb2); clear hb2))
      | (go_at_call 18; ((with_reducible refine (HFA.out _ HB1a.out).mono ?_); rintro e w1b ⟨v, rfl, rfl, hb2⟩; have HB1b := Lib.hid (below_trans HB1a.out hb2); clear hb2))
      | (go_at_call 18; ((with_reducible refine (HF.out _ HB1.out).mono ?_); rintro e w1a ⟨v, rfl, rfl, hb2⟩; have HB1a := Lib.hid (below_trans HB1.out hb2); clear hb2))
      | (go_at_call 17; ((with_reducible refine (HLV.out _ (HT.out.below HB2.out)).mono ?_); rintro e w3 ⟨v, rfl, rfl, hb3⟩; have HB3 := Lib.hid (below_trans HB2.out hb3); clear hb3))
      | (go_at_call 17; ((with_reducible refine (HLV.out _ (HT.out.below hB0)).mono ?_); rintro e w1 ⟨v, rfl, rfl, hb1⟩; have HB1 := Lib.hid (below_trans hB0 hb1); clear hb1))
      | fail)
    go_returns
    exact ⟨rfl, HB3.out⟩
theorem branches_c (c : Cf) (v : Value) (os : List S3) (va : Value) (la : List S3) (vb : Value) (lb : List S3) (W : World) (hT : Tab W) (hO : OpsV W v os) (hA : OpsV W va la) (hB : OpsV W vb lb) :
    Calls Tryd.prog 4 #[confV c, v, va, vb] W (Tru W) := by
  obtain ⟨b1, hb1, hf1⟩ := few_c v os W hO
  obtain ⟨b2, hb2, hf2⟩ := few_c va la W hA
  obtain ⟨b3, hb3, hf3⟩ := few_c vb lb W hB
  obtain ⟨A, cs, hv, -⟩ := id hO
  obtain ⟨Aa, ca, hva, -⟩ := id hA
  obtain ⟨Ab, cb, hvb, -⟩ := id hB
  cases b1 with
  | false => exact branches_out c v va vb _ _ _ A Aa Ab cs ca cb false b2 b3 W hv hva hvb hT (Or.inl rfl) hf1 hf2 hf3
  | true =>
    cases b2 with
    | false => exact branches_out c v va vb _ _ _ A Aa Ab cs ca cb true false b3 W hv hva hvb hT (Or.inr (Or.inl ⟨rfl, rfl⟩)) hf1 hf2 hf3
    | true =>
      cases b3 with
      | false => exact branches_out c v va vb _ _ _ A Aa Ab cs ca cb true true false W hv hva hvb hT (Or.inr (Or.inr ⟨rfl, rfl, rfl⟩)) hf1 hf2 hf3
      | true => exact branches_in c v va vb os la lb W hT hO hA hB (hb1 rfl).1 (hb2 rfl).1 (hb3 rfl).1 (hb1 rfl).2 (hb2 rfl).2 (hb3 rfl).2 hf1 hf2 hf3
end Go.Proofs.YtnegblckbomgdaaDoor.Ht
end
