/-
  ashlarlaw02.CrcRow: the walk.
-/
import Derived.Test.YtjagnodfdniccaaCrcRow
import Derived.StillTailTactics
namespace Go.Proofs.Ytjagnodfdniccaa.C
open Go.RowKit Go.Proofs.Ytjagnodfdniccaa.L Go.Proofs.YtjagnodfdniccaaW.PrintWords
set_option linter.unusedVariables false
set_option linter.unusedSimpArgs false

theorem four_at (y0 y1 y2 y3 : BitVec 8) (q : Nat) (h : q < 4) : (#[Value.int .u8 (y0.toNat : Int), .int .u8 (y1.toNat : Int), .int .u8 (y2.toNat : Int), .int .u8 (y3.toNat : Int)] : Array Value)[q]? = some (.int .u8 (([y0, y1, y2, y3].getD q 0#8).toNat : Int)) := by
  match q, h with
  | 0, _ => rfl
  | 1, _ => rfl
  | 2, _ => rfl
  | 3, _ => rfl
theorem four_take (y0 y1 y2 y3 : BitVec 8) (q : Nat) (h : q < 4) : [y0, y1, y2, y3].take (q + 1) = [y0, y1, y2, y3].take q ++ [[y0, y1, y2, y3].getD q 0#8] := by
  match q, h with
  | 0, _ => rfl
  | 1, _ => rfl
  | 2, _ => rfl
  | 3, _ => rfl
theorem take_len (y0 y1 y2 y3 : BitVec 8) (q : Nat) (h : q ≤ 4) : ([y0, y1, y2, y3].take q).length = q := by simp; omega

set_option maxHeartbeats 1000000 in
theorem row_any (A : Option Addr) (cap : Nat) (bs : List (BitVec 8)) (w : World) (hr : ReadsInt w .u8 A bs.length (by8 bs)) (hn : bs.length ≤ 140737488351232) (a : Int) (ha : (Lit.int .i64 a).wf = true) (y0 y1 y2 y3 : BitVec 8) :
    Calls Try.prog 6 #[.slice A bs.length cap, .int .i64 a, .agg #[.int .u8 (y0.toNat : Int), .int .u8 (y1.toNat : Int), .int .u8 (y2.toNat : Int), .int .u8 (y3.toNat : Int)]] w fun e w' => e = .returned (.bool true) ∧ Below w.heap.size w w' := by
  have HR := Lib.hid hr
  obtain ⟨a1, a2⟩ := bounds_i64 ha
  have r0 := y0.isLt
  have r1 := y1.isLt
  have r2 := y2.isLt
  have r3 := y3.isLt
  by_cases h0 : bs.length = 0
  · clear hr ha
    go_enter Try.func6, Try.ntmps6
    go_wp2_with (first
      | (go_at_call 27; refine (lives_any _).mono ?_; rintro e w1 ⟨rfl, hb1⟩; have B1 := Lib.hid (below_1 hb1)))
    go_ret
    exact ⟨rfl, B1.out⟩
  have hpos : 0 < bs.length := by omega
  have P2 := Lib.hid (fun W (h : ReadsInt W .u8 A bs.length (by8 bs)) => (by8_length bs) ▸ S.Copy_any A cap (by8 bs) W (by rw [by8_length]; exact h) (by rw [by8_length]; omega))
  obtain ⟨X, hX⟩ : ∃ X : Nat, IntKind.u64.wrap a = (X : Int) := ⟨(IntKind.u64.wrap a).toNat, by simp [IntKind.wrap, IntKind.signed, IntKind.bits]; omega⟩
  obtain ⟨k, hk⟩ : ∃ k, k = X % bs.length := ⟨_, rfl⟩
  have hkl : k < bs.length := by rw [hk]; exact Nat.mod_lt _ hpos
  have hK : wrap64 ((X : Int) % (bs.length : Int)) = (k : Int) := by
    rw [← Int.natCast_emod, ← hk]
    exact IntWalk.wrap64_in (k : Int) (by omega)
  clear hr ha hk
  have HB0 := Lib.hid (blk_new w (.cells #[.int .u8 (y0.toNat : Int), .int .u8 (y1.toNat : Int), .int .u8 (y2.toNat : Int), .int .u8 (y3.toNat : Int)] 36))
  go_enter Try.func6, Try.ntmps6
  go_wp2_with (first
    | (go_at_call 30; refine (P2.out _ (HR.out.below (below_alloc (Below.refl w.heap.size w) _))).mono ?_; rintro e w2 ⟨v2, rfl, ho2, hb2⟩; have K2 := Lib.hid (blk_below HB0.out hb2); have B2 := Lib.hid (below_1 hb2); obtain ⟨g, cap2, rfl, hgb, hgl⟩ := ho2.form hpos; have O2 := Lib.hid ho2; clear hb2 ho2))
  rw [hK]
  clear hX hK
  have hgb' : w.heap.size ≤ g := by simp at hgb; omega
  clear hgb
  go_loopw [9, 10] (fun c i wr => ∃ q : Nat, q ≤ 4 ∧ k + q ≤ bs.length ∧ i = .int .i64 (q : Int) ∧ c = .bool (ch ([y0, y1, y2, y3].take q)) ∧ Hid (wr.ownsRow w.heap.size 5 1 (.slice (some ⟨g, 0, none⟩) bs.length cap2) bs.length (nums .u8 (by8 (mix bs k ([y0, y1, y2, y3].take q))))) ∧ Hid (Below w.heap.size w wr) ∧ Hid (wr.heap[w.heap.size]? = some (.cells #[.int .u8 (y0.toNat : Int), .int .u8 (y1.toNat : Int), .int .u8 (y2.toNat : Int), .int .u8 (y3.toNat : Int)] 36 (0, 0)))) (fun _ i _ => 4 - (intOf i).toNat)
  case atStart => exact ⟨0, by omega, by omega, rfl, rfl, Lib.hid (by rw [List.take_zero, mix_nil _ _ (by omega)]; exact own_lower O2.out (by simp)), B2, K2⟩
  case round =>
    obtain ⟨q, hq, hkq, rfl, rfl, HO, HB, HK⟩ := hrel
    clear O2 B2 K2 HB0
    obtain ⟨H, hH⟩ : ∃ H, H = ch ([y0, y1, y2, y3].take q) := ⟨_, rfl⟩
    obtain ⟨M, hM⟩ : ∃ M, M = mix bs k ([y0, y1, y2, y3].take q) := ⟨_, rfl⟩
    rw [← hH]
    rw [← hM] at HO
    have hqt := take_len y0 y1 y2 y3 q hq
    have hMl : M.length = bs.length := by rw [hM]; exact mix_length _ _ _ (by rw [hqt]; exact hkq)
    by_cases hcont : q < 4 ∧ k + q < bs.length
    · obtain ⟨hlt, hlt2⟩ := hcont
      obtain ⟨b, hb⟩ : ∃ b, b = bs[k + q] := ⟨_, rfl⟩
      obtain ⟨y, hy⟩ : ∃ y, y = [y0, y1, y2, y3].getD q 0#8 := ⟨_, rfl⟩
      obtain ⟨z, hz⟩ : ∃ z, z = b ^^^ y := ⟨_, rfl⟩
      have ex : bits .xor .u8 (b.toNat : Int) (y.toNat : Int) = (z.toNat : Int) := by rw [hz]; exact u8_xor b y
      have rb := b.isLt
      have ry := y.isLt
      have rz := z.isLt
      have hrd : rd (by8 M) ((k + q : Nat) : Int) = (b.toNat : Int) := by
        rw [by8_rd M (k + q) (by omega), hb]
        have h9 := mix_at bs k ([y0, y1, y2, y3].take q) (by rw [hqt]; exact hlt2)
        simp only [hqt] at h9
        simp only [hM, h9]
      obtain ⟨o1, o2⟩ := own_at' HO.out (k + q) (by omega)
      rw [hrd] at o1
      have o3 := (blk_cell HK.out q).trans (four_at y0 y1 y2 y3 q hlt)
      rw [← hy] at o3
      have HX := Lib.hid (show mix bs k ([y0, y1, y2, y3].take (q + 1)) = M.set (k + q) z by
        rw [four_take y0 y1 y2 y3 q hlt, mix_next _ _ _ _ (by rw [hqt]; exact hlt2), ← hM, hz, hb, hy]; simp only [hqt])
      have HC := Lib.hid (show ch ([y0, y1, y2, y3].take (q + 1)) = (H || decide (y ≠ 0#8)) by
        rw [four_take y0 y1 y2 y3 q hlt, ch_next, ← hH, ← hy])
      have HN := Lib.hid (show w.heap.size ≠ g from by have h9 := own_blk_ne HO.out HK.out (by decide); simpa [Value.ownBlock] using h9)
      have HQ := Lib.hid (show (#[Value.int .u8 (y0.toNat : Int), .int .u8 (y1.toNat : Int), .int .u8 (y2.toNat : Int), .int .u8 (y3.toNat : Int)] : Array Value)[q]? = some (.int .u8 (y.toNat : Int)) by rw [four_at y0 y1 y2 y3 q hlt, hy])
      clear hb hy hz hrd hM hH hqt hMl
      have i1 : (0 : Int) ≤ (k : Int) + (q : Int) := by omega
      have i2 : (k : Int) + (q : Int) < (bs.length : Int) := by omega
      have i3 : (0 : Int) ≤ (q : Int) := by omega
      have i4 : (q : Int) < 4 := by omega
      have i5 : IntKind.i64.wrap ((k : Int) + (q : Int)) = (k : Int) + (q : Int) := IntWalk.i64_in _ (by omega)
      go_wp2
      have p1 : wr.drew.cell? ⟨g, k + q, none⟩ = some (.int .u8 (b.toNat : Int)) := o1
      have p2 : wr.drew.frozen? ⟨g, k + q, none⟩ = false := o2
      have p3 : wr.drew.cell? ⟨w.heap.size, q, none⟩ = some (.int .u8 (y.toNat : Int)) := o3
      have HO4 : Hid (wr.drew.ownsRow w.heap.size 5 1 (.slice (some ⟨g, 0, none⟩) bs.length cap2) bs.length (nums .u8 (by8 M))) := Lib.hid (own_drew HO.out)
      have HK4 : Hid (wr.drew.heap[w.heap.size]? = _) := Lib.hid (blk_drew HK.out)
      have HB5 : Hid (Below w.heap.size w wr.drew) := Lib.hid (below_drewN HB.out 1)
      have i6 : ((k : Int) + (q : Int)).toNat = k + q := by omega
      clear HO HK HB
      refine wp_region_still_tail 15 (by kernel_rfl) (by kernel_rfl) ?_
      simp only [List.take_succ_cons, List.take_zero, List.drop_succ_cons, List.drop_zero]
      repeat still_step
      refine wpStill_nil ?_
      clear o1 o2 o3
      have p4 : (wr.drew.setCell ⟨g, k + q, none⟩ (.int .u8 (z.toNat : Int))).cell? ⟨w.heap.size, q, none⟩ = some (.int .u8 (y.toNat : Int)) := (blk_cell (blk_far HK4.out (p := ⟨g, k + q, none⟩) HN.out (.int .u8 (z.toNat : Int))) q).trans HQ.out
      have HO6 := Lib.hid ((own_store HO4.out ((k + q : Nat) : Int) (z.toNat : Int)).1)
      have HB6 := Lib.hid (HB5.out.setCell (p := ⟨g, k + q, none⟩) hgb' (.int .u8 (z.toNat : Int)))
      have HK6 := Lib.hid (blk_far HK4.out (p := ⟨g, k + q, none⟩) HN.out (.int .u8 (z.toNat : Int)))
      clear HO4 HB5 HK4 p3
      change wpList _ _ _ _ _ wr.drew
      generalize wr.drew = w3 at p1 p2 p4 HO6 HB6 HK6 ⊢
      have hcases : (H = true ∧ Hid (ch ([y0, y1, y2, y3].take (q + 1)) = true)) ∨ (H = false ∧ (y.toNat : Int) = 0 ∧ Hid (ch ([y0, y1, y2, y3].take (q + 1)) = false)) ∨ (H = false ∧ ¬ (y.toNat : Int) = 0 ∧ Hid (ch ([y0, y1, y2, y3].take (q + 1)) = true)) := by
        rcases H with _ | _
        · by_cases hy1 : y = 0#8
          · exact .inr (.inl ⟨rfl, by rw [hy1]; rfl, Lib.hid (by rw [HC.out, hy1]; rfl)⟩)
          · exact .inr (.inr ⟨rfl, fun h => hy1 (BitVec.eq_of_toNat_eq (by simpa using h)), Lib.hid (by rw [HC.out, decide_eq_true hy1]; rfl)⟩)
        · exact .inl ⟨rfl, Lib.hid (by rw [HC.out]; rfl)⟩
      clear HC HQ
      rcases hcases with ⟨rfl, hc⟩ | ⟨rfl, hy0, hc⟩ | ⟨rfl, hy0, hc⟩
      all_goals
        go_wp2
        go_roundw
        case rel =>
          refine ⟨q + 1, by omega, by omega, by go_num, by first | (rw [hc.out]; done) | (rw [hc.out]; have hy2 : ¬ y.toNat = 0 := (by omega); simp [hy2]), Lib.hid ?_, Lib.hid HB6.out, Lib.hid HK6.out⟩
          have h := HO6.out
          rw [Int.toNat_natCast, by8_set, ← HX.out] at h
          exact h
        case measure => simp [intOf]; omega
    · have hR := Lib.hid (own_reads' HO.out)
      obtain ⟨V2, hV2⟩ : ∃ V, V = more 0#32 bs := ⟨_, rfl⟩
      obtain ⟨V1, hV1⟩ : ∃ V, V = more 0#32 M := ⟨_, rfl⟩
      have hRl := V1.isLt
      have hRl2 := V2.isLt
      have P4 : Hid (∀ W, ReadsInt W .u8 (some ⟨g, 0, none⟩) bs.length (by8 M) → Calls Try.prog 24 #[.slice (some ⟨g, 0, none⟩) bs.length cap2] W fun e w' => e = .returned (.int .u32 (V1.toNat : Int)) ∧ Below W.heap.size W w') := Lib.hid fun W h => by
        have h9 := Of_any (some ⟨g, 0, none⟩) cap2 M W (by rw [hMl]; exact h) (by omega)
        rw [hMl] at h9
        rw [hV1]; exact h9
      have P5 : Hid (∀ W, ReadsInt W .u8 A bs.length (by8 bs) → Calls Try.prog 24 #[.slice A bs.length cap] W fun e w' => e = .returned (.int .u32 (V2.toNat : Int)) ∧ Below W.heap.size W w') := Lib.hid fun W h => by
        rw [hV2]; exact Of_any A cap bs W h (by omega)
      have hfin : (H = false ∧ V1 = V2) ∨ (H = true ∧ ¬ (V1.toNat : Int) = (V2.toNat : Int)) := by
        rcases H with _ | _
        · exact .inl ⟨rfl, by rw [hV1, hV2, hM]; exact mix_same _ _ _ _ (by rw [hqt]; exact hkq) hH.symm⟩
        · refine .inr ⟨rfl, fun h => mix_ne 0#32 bs k _ (by rw [hqt]; exact hkq) (by rw [hqt]; exact hq) hH.symm (BitVec.eq_of_toNat_eq ?_)⟩
          rw [← hM, ← hV1, ← hV2]; omega
      have hend : q = 4 ∨ (q < 4 ∧ k + q = bs.length) := by omega
      clear hV1 hV2 hM hH hqt hMl hcont
      rcases hfin with ⟨rfl, rfl⟩ | ⟨rfl, hne⟩ <;> rcases hend with rfl | ⟨hl1, hl2⟩
      all_goals
        go_wp2_with (first
          | (go_at_call_of 24 (Value.slice (some ⟨g, 0, none⟩) bs.length cap2); refine (P4.out _ hR.out).mono ?_; rintro e w4 ⟨rfl, hb4⟩; have B4 := Lib.hid (below_ext HB.out hb4); have R4 := Lib.hid (HR.out.below B4.out); clear hb4)
          | (go_at_call 24; refine (P5.out _ R4.out).mono ?_; rintro e w5 ⟨rfl, hb5⟩; have B5 := Lib.hid (below_ext B4.out hb5); clear hb5)
          | (go_at_call 27; refine (lives_any _).mono ?_; rintro e w6 ⟨rfl, hb6⟩; have B6 := Lib.hid (below_ext B5.out hb6); clear hb6))
        go_ret
        exact ⟨ret_b (by simp_all), B6.out⟩
theorem row_any' (A : Option Addr) (cap : Nat) (l : List Int) {w : World} (hr : ReadsInt w .u8 A l.length l) (y : l.length * 1 ≤ 140737488351232) (hw : ∀ x ∈ l, (Lit.int .u8 x).wf = true) (hc : l.length ≤ cap) (a : Int) (wa : (Lit.int .i64 a).wf = true) (ys : List Int) (hys : ys.length = 4) (wy : ∀ x ∈ ys, (Lit.int .u8 x).wf = true) :
    Calls Try.prog 6 #[.slice A l.length cap, .int .i64 a, .agg (ys.map fun x => Value.int .u8 x).toArray] w fun e w' => e = .returned (.bool true) ∧ Below w.heap.size w w' := by
  obtain ⟨bs, rfl⟩ := by8_of l hw
  obtain ⟨zs, rfl⟩ := by8_of ys wy
  rw [by8_length] at hr y hys ⊢
  match zs, hys with
  | [y0, y1, y2, y3], _ => exact row_any A cap bs w hr (by omega) a wa y0 y1 y2 y3
end Go.Proofs.Ytjagnodfdniccaa.C
