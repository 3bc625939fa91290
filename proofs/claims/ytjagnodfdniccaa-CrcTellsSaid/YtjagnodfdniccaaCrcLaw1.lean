/-
  ashlarlaw02.CrcTells, CrcZeros: the walks.
-/
import Derived.Test.YtjagnodfdniccaaCrcL
namespace Go.Proofs.Ytjagnodfdniccaa.C
open Go.RowKit Go.Proofs.Ytjagnodfdniccaa.L Go.Proofs.YtjagnodfdniccaaW.PrintWords
set_option linter.unusedVariables false

/-- a whole number of 32, of 8 bits as a word -/
theorem word32 {x : Int} (h : (Lit.int .u32 x).wf = true) : ∃ r : BitVec 32, x = (r.toNat : Int) := by
  obtain ⟨h1, h2⟩ := bounds_u32 h
  refine ⟨BitVec.ofNat 32 x.toNat, ?_⟩
  rw [BitVec.toNat_ofNat]; omega
theorem word8 {x : Int} (h : (Lit.int .u8 x).wf = true) : ∃ r : BitVec 8, x = (r.toNat : Int) := by
  obtain ⟨h1, h2⟩ := bounds_u8 h
  refine ⟨BitVec.ofNat 8 x.toNat, ?_⟩
  rw [BitVec.toNat_ofNat]; omega
theorem own_wid {w : World} {base e g : Nat} {bs : List (BitVec 8)} (h : w.ownsRow base e 1 (.slice (some ⟨g, 0, none⟩) (bs.length + 3) (bs.length + 3)) (bs.length + 3) (nums .u8 (S.wid (by8 bs)))) :
    ReadsInt w .u8 (some ⟨g, 0, none⟩) (bs.length + 3) (S.wid (by8 bs)) := own_reads' h

set_option maxHeartbeats 1000000 in
theorem tells_any (s : BitVec 32) (r : BitVec 32) (c : BitVec 8) (A : Option Addr) (cap : Nat) (bs : List (BitVec 8)) (w : World) (hr : ReadsInt w .u8 A bs.length (by8 bs)) (hn : bs.length ≤ 140737488351232) :
    Calls Try.prog 3 #[.int .u32 (s.toNat : Int), .int .u32 (r.toNat : Int), .int .u8 (c.toNat : Int), .slice A bs.length cap] w fun e w' => e = .returned (.bool true) ∧ Below w.heap.size w w' := by
  have hs := s.isLt
  have hrl := r.isLt
  have hcl := c.isLt
  have HR := Lib.hid hr
  have P1 := Lib.hid (fun W (h : W = w) => (by8_length bs) ▸ S.Wide_any A cap (by8 bs) w (by rw [by8_length]; exact hr) (by rw [by8_length]; exact hn))
  have HN := Lib.hid hn
  have hn1 : bs.length ≤ 9223372036854775807 := by omega
  clear hr hn
  go_enter Try.func3, Try.ntmps3
  go_wp2_with (first
    | (go_at_call 17; refine (P1.out _ rfl).mono ?_; rintro e w1 ⟨g, rfl, ho, hb1⟩; have W1 := Lib.hid (own_wid ho); have R1 := Lib.hid (HR.out.below hb1); clear ho)
    | (go_at_call 18; refine (Step_any r _).mono ?_; rintro e w2 ⟨rfl, rfl⟩)
    | (go_at_call 19; refine (rStep_any r _).mono ?_; rintro e w2 ⟨rfl, rfl⟩)
    | (go_at_call 20; refine (Take_any r c _).mono ?_; rintro e w3 ⟨rfl, hb3⟩; have W3 := Lib.hid (W1.out.below hb3); have R3 := Lib.hid (R1.out.below hb3))
    | (go_at_call 21; refine (rTake_any r c _).mono ?_; rintro e w4 ⟨rfl, rfl⟩)
    | (go_at_call 22; refine (More_any s _ _ bs _ (by have h := S.wid_reads (xs := by8 bs) (by rw [by8_length]; exact W3.out); rwa [by8_length] at h) hn1).mono ?_; rintro e w5 ⟨rfl, hb5⟩; have W5 := Lib.hid (W3.out.below hb5); have R5 := Lib.hid (R3.out.below hb5))
    | (go_at_call 23; refine (rMore_any s A cap bs _ R5.out hn1).mono ?_; rintro e w6 ⟨rfl, hb6⟩; have W6 := Lib.hid (W5.out.below hb6); have R6 := Lib.hid (R5.out.below hb6))
    | (go_at_call 24; refine (Of_any _ _ bs _ (by have h := S.wid_reads (xs := by8 bs) (by rw [by8_length]; exact W6.out); rwa [by8_length] at h) hn1).mono ?_; rintro e w7 ⟨rfl, hb7⟩; have W7 := Lib.hid (W6.out.below hb7); have R7 := Lib.hid (R6.out.below hb7))
    | (go_at_call 25; refine (rOf_any A cap bs _ R7.out hn1).mono ?_; rintro e w8 ⟨rfl, hb8⟩; have W8 := Lib.hid (W7.out.below hb8); have R8 := Lib.hid (R7.out.below hb8))
    | (go_at_call 26; refine ((by8_length bs) ▸ S.Left_any g A cap (by8 bs) _ (by rw [by8_length]; exact W8.out) (by rw [by8_length]; exact R8.out) (by rw [by8_length]; exact HN.out)).mono ?_; rintro e w9 ⟨rfl, j9, rfl⟩)
    | (go_at_call 27; refine (lives_any _).mono ?_; rintro e w10 ⟨rfl, hb10⟩; have B10 := Lib.hid (below_undrewN hb10)))
  go_ret
  exact ⟨ret_b (by simp), below_ext hb1 (below_ext hb3 (below_ext hb5 (below_ext hb6 (below_ext hb7 (below_ext hb8 B10.out)))))⟩
theorem tells_any' (s : Int) (ws : (Lit.int .u32 s).wf = true) (r : Int) (wr : (Lit.int .u32 r).wf = true) (c : Int) (wc : (Lit.int .u8 c).wf = true) (A : Option Addr) (cap : Nat) (l : List Int) {w : World} (hr : ReadsInt w .u8 A l.length l) (y : l.length * 1 ≤ 140737488351232) (hw : ∀ x ∈ l, (Lit.int .u8 x).wf = true) (hc : l.length ≤ cap) :
    Calls Try.prog 3 #[.int .u32 s, .int .u32 r, .int .u8 c, .slice A l.length cap] w fun e w' => e = .returned (.bool true) ∧ Below w.heap.size w w' := by
  obtain ⟨s, rfl⟩ := word32 ws
  obtain ⟨r, rfl⟩ := word32 wr
  obtain ⟨c, rfl⟩ := word8 wc
  obtain ⟨bs, rfl⟩ := by8_of l hw
  rw [by8_length] at hr y ⊢
  exact tells_any s r c A cap bs w hr (by omega)
end Go.Proofs.Ytjagnodfdniccaa.C
