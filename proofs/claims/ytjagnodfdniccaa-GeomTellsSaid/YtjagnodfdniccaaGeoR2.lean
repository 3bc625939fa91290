/-
  ashlarref04.All, At, Block.
-/
import Derived.Test.YtjagnodfdniccaaGeoR
import Derived.Test.YtjagnodfdniccaaGeoLaw3
namespace Go.Proofs.Ytjagnodfdniccaa.G
open Go.RowKit Go.Proofs.Ytjagnodfdniccaa.L Go.Proofs.YtjagnodfdniccaaW.PrintWords
set_option linter.unusedVariables false

/-- the cells of the places of the first n blocks -/
def plc (m : Int) (n : Nat) : List Value := (List.range n).flatMap (fun b : Nat => [.int .i64 ((b : Int) / (m - 1)), .int .i64 ((b : Int) % m)])
theorem plc_succ (m : Int) (n : Nat) : plc m (n + 1) = plc m n ++ [.int .i64 ((n : Int) / (m - 1)), .int .i64 ((n : Int) % m)] := by
  rw [plc, List.range_succ, List.flatMap_append, ← plc]; rfl
theorem plc_length (m : Int) (n : Nat) : (plc m n).length = n * 2 := by
  induction n with
  | zero => rfl
  | succ n ih => rw [plc_succ, List.length_append, ih]; simp; omega
theorem plc_get (m : Int) {n i : Nat} (h : i < n) : (plc m n)[2 * i]? = some (.int .i64 ((i : Int) / (m - 1))) ∧ (plc m n)[2 * i + 1]? = some (.int .i64 ((i : Int) % m)) := by
  induction n with
  | zero => omega
  | succ n ih =>
    rw [plc_succ]
    rcases Nat.lt_or_ge i n with h1 | h1
    · have hl := plc_length m n
      rw [List.getElem?_append_left (by omega), List.getElem?_append_left (by omega)]
      exact ih h1
    · obtain rfl : i = n := by omega
      have hl := plc_length m i
      rw [List.getElem?_append_right (by omega), List.getElem?_append_right (by omega), hl, show 2 * i - i * 2 = 0 by omega, show 2 * i + 1 - i * 2 = 1 by omega]
      exact ⟨rfl, rfl⟩
theorem info_place : (Try.prog.info? 54).map (fun i => (i.zero, i.size, i.bytes)) = some (some (.agg #[.int .i64 0, .int .i64 0]), 2, 16) := by kernel_rfl

set_option maxHeartbeats 1000000 in
theorem All_ok (m s r : Int) (w : World) (h : may m s r = true) : Calls Try.prog 65 #[.agg #[.int .i64 m, .int .i64 s, .int .i64 r]] w fun e w' =>
    ∃ v, e = .returned v ∧ w'.ownsRow w.heap.size 54 2 v (s * (m - 1)).toNat (plc m (s * (m - 1)).toNat) ∧ Below w.heap.size w w' := by
  obtain ⟨b1, b2, b3, b4, b5, b6⟩ := may_iff.1 h
  obtain ⟨n1, n2⟩ := mul_bd b1 b2 b3 b4
  have A1 := Lib.hid (fun w => rmay_any m s r w)
  rw [h] at A1
  have HM := Lib.hid h
  clear h
  go_enter Try.func65, Try.ntmps65
  go_wp2
  have BK := Lib.hid (blk_new w (.cells #[.int .i64 m, .int .i64 s, .int .i64 r] 50))
  have BB := Lib.hid (below_alloc (Below.refl _ w) (.cells #[.int .i64 m, .int .i64 s, .int .i64 r] 50))
  obtain ⟨g, hg⟩ : ∃ g, g = w.heap.size := ⟨_, rfl⟩
  rw [← hg] at BK ⊢
  have HG := Lib.hid hg
  clear hg
  generalize w.alloc (Obj.cells #[Value.int IntKind.i64 m, Value.int IntKind.i64 s, Value.int IntKind.i64 r] 50) = w1 at BK BB ⊢
  go_loopw [3, 4] (fun lv i wr => ∃ q : Nat, (q : Int) ≤ s ∧ i = .int .i64 q ∧ Hid (∃ n : Nat, (n : Int) = q * (m - 1) ∧ wr.ownsRow w.heap.size 54 2 lv n (plc m n)) ∧ Hid (wr.heap[g]? = some (.cells #[.int .i64 m, .int .i64 s, .int .i64 r] 50 (0, 0))) ∧ Hid (Below w.heap.size w wr)) (fun _ i _ => s.toNat - (intOf i).toNat)
  case atStart => exact ⟨0, by omega, rfl, Lib.hid ⟨0, by simp, by simpa [plc] using World.ownsRow_nil _ _ _ _⟩, BK, BB⟩
  case round =>
    obtain ⟨q, hq, rfl, HO, HK, HB⟩ := hrel
    clear BK BB
    have c0 := (blk_cell HK.out 0).trans rfl
    have c1 := (blk_cell HK.out 1).trans rfl
    have c2 := (blk_cell HK.out 2).trans rfl
    by_cases hlt : (q : Int) < s
    · have ha : asked m s r q = 0 := by rw [asked, if_pos HM.out, if_pos ⟨by omega, hlt⟩]
      have A2 := Lib.hid (fun w => rData_any m s r q w)
      rw [ha] at A2
      obtain ⟨dl, hdl⟩ : ∃ dl, dl = dataL m s r q := ⟨_, rfl⟩
      rw [← hdl] at A2
      have hlen : (dl.length : Int) = m - 1 := by rw [hdl, dataL, if_pos ha]; simp; omega
      obtain ⟨n, hn, hO⟩ := HO.out
      have HO1 := Lib.hid hO
      have HN := Lib.hid hn
      obtain ⟨t1, t2⟩ := mul_bd2 (st := (q : Int)) b1 b2 (by omega) hlt b4
      rw [← hn] at t1 t2
      have HD : Hid (∀ i : Nat, (i : Int) < m - 1 → rd dl i = ((n + i : Nat) : Int) % m ∧ (q : Int) = ((n + i : Nat) : Int) / (m - 1)) := Lib.hid (fun i hi => by
        have e1 : ((n + i : Nat) : Int) / (m - 1) = q := by
          rw [show ((n + i : Nat) : Int) = i + n by omega, hn, Int.add_mul_ediv_right _ _ (by omega), Int.ediv_eq_zero_of_lt (by omega) hi]; omega
        have e2 : ((n + i : Nat) : Int) % (m - 1) = i := by
          rw [show ((n + i : Nat) : Int) = i + n by omega, hn, Int.add_mul_emod_self_right]; exact Int.emod_eq_of_lt (by omega) hi
        refine ⟨?_, e1.symm⟩
        rw [← mem_eq (b := ((n + i : Nat) : Int)) b1 (by omega), e1, e2, hdl, dataL, if_pos ha]
        exact rd_map_range (by omega))
      clear HO hn hO ha hdl
      obtain ⟨w2, rfl⟩ : ∃ w2 : World, w2 = wr := ⟨_, rfl⟩
      go_wp2_with (first
        | (go_at_call 51; refine (A1.out _).mono ?_; rintro e w3 ⟨rfl, hb3⟩; have K3 := Lib.hid (blk_below HK.out hb3); have d0 := (blk_cell K3.out 0).trans rfl; have d1 := (blk_cell K3.out 1).trans rfl; have d2 := (blk_cell K3.out 2).trans rfl)
        | (go_at_call 53; refine (A2.out _).mono ?_; rintro e w4 ⟨v, rfl, ho, hb4⟩; have K4 := Lib.hid (blk_below K3.out hb4); have B4 := Lib.hid (below_ext HB.out (below_ext hb3 hb4)); have O4 := Lib.hid (pw_own_below (pw_own_below HO1.out hb3) hb4); have ho' := own_lower (base' := w.heap.size) ho (Nat.le_trans HB.out.size hb3.size); obtain ⟨A, cap, rfl, hr⟩ := own_reads ho'; have OD4 := Lib.hid ho'; clear hb3 hb4 ho ho' hr))
      obtain ⟨w5, rfl⟩ : ∃ w5 : World, w5 = w4 := ⟨_, rfl⟩
      clear c0 c1 c2 d0 d1 d2
      go_loopw [3, 7] (fun lv i wr => ∃ x : Nat, x ≤ dl.length ∧ i = .int .i64 x ∧ Hid (wr.ownsRow w.heap.size 54 2 lv (n + x) (plc m (n + x))) ∧ Hid (wr.ownsRow w.heap.size 3 1 (.slice A dl.length cap) dl.length (nums .i64 dl)) ∧ Hid (wr.heap[g]? = some (.cells #[.int .i64 m, .int .i64 s, .int .i64 r] 50 (0, 0))) ∧ Hid (Below w.heap.size w wr)) (fun _ i _ => dl.length - (intOf i).toNat)
      case atStart => exact ⟨0, Nat.zero_le _, rfl, O4, OD4, K4, B4⟩
      case round =>
        obtain ⟨x, hx, rfl, HO, HD2, HK2, HB2⟩ := hrel
        clear K4 B4 O4 OD4
        by_cases hxl : x < dl.length
        · obtain ⟨ad, rfl, cx⟩ := (own_reads' HD2.out).at_ (x : Int) (by omega) (by omega)
          simp only [Int.toNat_natCast] at cx
          obtain ⟨v1, v2⟩ := HD.out x (by omega)
          rw [v1] at cx
          have HV2 := Lib.hid v2
          have hl5 : (n + x + 1) * 16 ≤ 140737488355328 := by omega
          have HN5 := Lib.hid (own_blk_ne HO.out HK2.out (by decide))
          have HN6 := Lib.hid (own_type_ne HD2.out HO.out (by decide))
          have HX := Lib.hid (show plc m (n + (x + 1)) = plc m (n + x) ++ [.int .i64 (q : Int), .int .i64 (((n + x : Nat) : Int) % m)] by rw [HV2.out, ← plc_succ]; rfl)
          clear v1 v2
          go_wp2_with (first
            | (at_builtin; refine print_append_cells (w0 := w) w.heap.size rfl (.tmp 30) (.tmp 37) 82 54 (.agg #[.int .i64 0, .int .i64 0]) 2 16 rfl Try.underlying82 info_place rfl (by decide) (by decide) _ (n + x) (plc m (n + x)) [.int .i64 (q : Int), .int .i64 (((n + x : Nat) : Int) % m)] rfl rfl rfl (by simp [Value.oneCell']) HO.out HB2.out HB2.out.size hl5 ?_; intro y1 w6 ho6 hb6 hg6 hat6; have K6 := Lib.hid (blk_grown HK2.out hg6 HN5.out); have B6 := Lib.hid hb6; have O6 := Lib.hid ho6; have D6 := Lib.hid (own_other HD2.out hg6 HN6.out); clear ho6 hb6 hg6 hat6))
          go_roundw
          case rel => exact ⟨x + 1, by omega, by go_num, by rw [HX.out]; exact O6, D6, K6, B6⟩
          case measure => simp [intOf]; omega
        · obtain rfl : x = dl.length := by omega
          go_wp2
          go_roundw
          case rel => first | exact ⟨q + 1, by omega, by go_num, Lib.hid ⟨n + dl.length, by rw [show ((n + dl.length : Nat) : Int) = n + dl.length by omega, HN.out, hlen, show ((q + 1 : Nat) : Int) = q + 1 by omega, Int.add_mul]; omega, HO.out⟩, HK2, HB2⟩ | ((repeat apply Exists.intro); exact ⟨⟨q + 1, by omega, by go_num, Lib.hid ⟨n + dl.length, by rw [show ((n + dl.length : Nat) : Int) = n + dl.length by omega, HN.out, hlen, show ((q + 1 : Nat) : Int) = q + 1 by omega, Int.add_mul]; omega, HO.out⟩, HK2, HB2⟩, rfl⟩)
          case measure => simp [intOf]; omega
    · obtain rfl : s = (q : Int) := by omega
      go_wp2
      go_ret
      obtain ⟨n, hn, hO⟩ := HO.out
      exact ⟨_, rfl, by rw [← hn, Int.toNat_natCast]; exact hO, HB.out⟩
end Go.Proofs.Ytjagnodfdniccaa.G
