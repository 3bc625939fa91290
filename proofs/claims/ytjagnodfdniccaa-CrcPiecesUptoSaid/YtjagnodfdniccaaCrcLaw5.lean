/-
  ashlarlaw02.CrcPieces: the walk, where the two are not too long.
-/
import Derived.Test.YtjagnodfdniccaaCrcL
namespace Go.Proofs.Ytjagnodfdniccaa.C
open Go.RowKit Go.Proofs.Ytjagnodfdniccaa.L Go.Proofs.YtjagnodfdniccaaW.PrintWords
set_option linter.unusedVariables false
set_option linter.unusedSimpArgs false

set_option maxHeartbeats 1000000 in
theorem pieces_any (A : Option Addr) (cap : Nat) (xs : List (BitVec 8)) (B : Option Addr) (cap2 : Nat) (bs : List (BitVec 8)) (w : World) (ha : ReadsInt w .u8 A xs.length (by8 xs)) (hb : ReadsInt w .u8 B bs.length (by8 bs)) (hn : xs.length ≤ 1048576) (hm : bs.length ≤ 1048576) :
    Calls Try.prog 5 #[.slice A xs.length cap, .slice B bs.length cap2] w fun e w' => e = .returned (.bool true) ∧ Below w.heap.size w w' := by
  have HA := Lib.hid ha
  have HB := Lib.hid hb
  have P2 := Lib.hid (fun W (h : W = w) => (by8_length xs) ▸ S.Copy_any A cap (by8 xs) w (by rw [by8_length]; exact ha) (by rw [by8_length]; omega))
  obtain ⟨L, hL⟩ : ∃ L, L = xs ++ bs := ⟨_, rfl⟩
  have HL := Lib.hid (show by8 xs ++ by8 bs = by8 L by rw [hL, by8_append])
  have hLn : L.length ≤ 9223372036854775807 := by rw [hL]; simp; omega
  obtain ⟨U, hU⟩ : ∃ U, U = more 0#32 xs := ⟨_, rfl⟩
  obtain ⟨V, hV⟩ : ∃ V, V = more 0#32 L := ⟨_, rfl⟩
  have HV := Lib.hid (show more U bs = V by rw [hV, hU, hL, more_append])
  have hl5 : (((by8 xs).length + bs.length) * 1 ≤ 140737488355328) := by rw [by8_length]; omega
  have HL5 := Lib.hid hl5
  have P4 := Lib.hid (fun (A5 : Option Addr) (c5 : Nat) (W : World) (h : ReadsInt W .u8 A5 L.length (by8 L)) => hV ▸ Of_any A5 c5 L W h hLn)
  have P5 := Lib.hid (fun (W : World) (h : ReadsInt W .u8 A xs.length (by8 xs)) => hU ▸ Of_any A cap xs W h (by omega))
  have P6 : Hid (∀ (W : World), ReadsInt W .u8 B bs.length (by8 bs) → Calls Try.prog 22 #[.int .u32 (U.toNat : Int), .slice B bs.length cap2] W fun e w' => e = .returned (.int .u32 (V.toNat : Int)) ∧ Below W.heap.size W w') := Lib.hid fun W h => by
    have h9 := More_any U B cap2 bs W h (by omega)
    rw [HV.out] at h9
    exact h9
  have ul := U.isLt
  have vl := V.isLt
  clear ha hb hL hU hV hl5
  go_enter Try.func5, Try.ntmps5
  go_wp2_with (first
    | (go_at_call 30; refine (P2.out _ rfl).mono ?_; rintro e w2 ⟨v2, rfl, ho2, hb2⟩; have O2 := Lib.hid ho2; have B2 := Lib.hid hb2; clear hb2 ho2)
    | (at_builtin; refine print_append_row (w0 := w) w.heap.size rfl (.tmp 8) (.tmp 9) 23 5 .u8 1 rfl Try.underlying23 S.info_u8 (by decide) _ (by8 xs) (by8 bs) B bs.length cap2 rfl rfl (by rw [by8_length]; exact O2.out) (HB.out.below B2.out) B2.out B2.out.size HL5.out ?_; intro v5 w5 ho5 hb5 hg5 hat5; rw [HL.out, by8_length] at ho5; have B5 := Lib.hid hb5; obtain ⟨A5, c5, rfl, hr5⟩ := own_reads ho5; have R5 := Lib.hid hr5; clear ho5 hb5 hg5 hat5 hr5)
    | (go_at_call_of 24 (Value.slice A5 L.length c5); refine (P4.out A5 c5 _ R5.out).mono ?_; rintro e w6 ⟨rfl, hb6⟩; have B6 := Lib.hid (below_ext B5.out hb6); clear hb6)
    | (go_at_call 24; refine (P5.out _ (HA.out.below B6.out)).mono ?_; rintro e w7 ⟨rfl, hb7⟩; have B7 := Lib.hid (below_ext B6.out hb7); clear hb7)
    | (go_at_call 22; refine (P6.out _ (HB.out.below B7.out)).mono ?_; rintro e w8 ⟨rfl, hb8⟩; have B8 := Lib.hid (below_ext B7.out hb8); clear hb8)
    | (go_at_call 27; refine (lives_any _).mono ?_; rintro e w9 ⟨rfl, hb9⟩; have B9 := Lib.hid (below_ext B8.out hb9); clear hb9))
  go_ret
  exact ⟨ret_b (by simp), B9.out⟩
theorem pieces_any' (A : Option Addr) (cap : Nat) (l : List Int) {w : World} (hr : ReadsInt w .u8 A l.length l) (y : l.length * 1 ≤ 140737488351232) (hw : ∀ x ∈ l, (Lit.int .u8 x).wf = true) (hc : l.length ≤ cap) (hk : l.length ≤ 1048576)
    (B : Option Addr) (cap2 : Nat) (l2 : List Int) (hr2 : ReadsInt w .u8 B l2.length l2) (y2 : l2.length * 1 ≤ 140737488351232) (hw2 : ∀ x ∈ l2, (Lit.int .u8 x).wf = true) (hc2 : l2.length ≤ cap2) (hk2 : l2.length ≤ 1048576) :
    Calls Try.prog 5 #[.slice A l.length cap, .slice B l2.length cap2] w fun e w' => e = .returned (.bool true) ∧ Below w.heap.size w w' := by
  obtain ⟨xs, rfl⟩ := by8_of l hw
  obtain ⟨bs, rfl⟩ := by8_of l2 hw2
  rw [by8_length] at hr hr2 hk hk2
  rw [by8_length, by8_length]
  exact pieces_any A cap xs B cap2 bs w hr hr2 hk hk2
end Go.Proofs.Ytjagnodfdniccaa.C
