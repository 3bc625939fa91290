/-
  ashlarref00.Spoil: all bytes are others, the room behind them, too.
-/
import Derived.Test.YtdchcggllcgokaaNumL
namespace Go.Proofs.Ytdchcggllcgokaa.U
open Go.RowKit Go.Proofs.Ytdchcggllcgokaa.L Go.Proofs.YtdchcggllcgokaaW.PrintWords
set_option linter.unusedVariables false
set_option linter.unusedSimpArgs false

/-- some bytes, all of the room -/
def Room (b : Nat) (W : World) (A : Option Addr) (c : Nat) : Prop := ∃ zs : List Int, (∀ x ∈ zs, (Lit.int .u8 x).wf = true) ∧ zs.length = c ∧ W.ownsRow b 5 1 (.slice A c c) c (nums .u8 zs)
theorem Room.below {b : Nat} {W W1 : World} {A : Option Addr} {c : Nat} (h : Room b W A c) (hb : Below W.heap.size W W1) : Room b W1 A c := by
  obtain ⟨zs, h1, h2, h3⟩ := h
  exact ⟨zs, h1, h2, pw_own_below h3 hb⟩
theorem Byts.room {b : Nat} {W : World} {A : Option Addr} {ys : List Int} (h : Byts b W A ys.length ys) (hw : ∀ x ∈ ys, (Lit.int .u8 x).wf = true) : Room b W A ys.length := ⟨ys, hw, rfl, h⟩
theorem Room.grown {b : Nat} {W W1 : World} {A : Option Addr} {c : Nat} {g : Option Nat} (h : Room b W A c) (hg : W.grownBy W1 g) (hne : ∀ k, g = some k → k < b) : Room b W1 A c := by
  obtain ⟨zs, h1, h2, h3⟩ := h
  refine ⟨zs, h1, h2, own_other h3 hg ?_⟩
  cases hk : Value.ownBlock (.slice A c c) with
  | none => exact .inl rfl
  | some k =>
    refine .inr fun e => ?_
    have := hne k e.symm
    have := own_base h3 k hk
    omega
theorem spoil_wf {zs : List Int} {c : Int} {q : Nat} (h : ∀ x ∈ zs, (Lit.int .u8 x).wf = true) (hc : 0 ≤ c ∧ c ≤ 255) : ∀ x ∈ zs.set q c, (Lit.int .u8 x).wf = true := fun x hx => by
  rcases List.mem_or_eq_of_mem_set hx with h1 | rfl
  · exact h x h1
  · exact WalkArith.wf_u8 (by omega)
set_option maxRecDepth 100000 in
set_option maxHeartbeats 1000000 in
theorem Spoil_any (b : Nat) (A : Option Addr) (n c : Nat) (hn : n ≤ c) (hc : c ≤ 9223372036854775807) (by_ : Int) (hby : 0 ≤ by_ ∧ by_ ≤ 255) (w : World) (h : Room b w A c) :
    Calls Try.prog 39 #[.slice A n c, .int .u8 by_] w fun e w' => e = .returned (.tuple #[]) ∧ w.grownBy w' (Value.ownBlock (.slice A c c)) := by
  have H := Lib.hid h
  obtain ⟨b0, b1⟩ := hby
  clear h
  go_enter Try.func39, Try.ntmps39
  go_wp2
  go_loopw [5] (fun i wr => ∃ q : Nat, q ≤ c ∧ i = .int .i64 q ∧ Hid (Room b wr A c) ∧ Hid (w.grownBy wr (Value.ownBlock (.slice A c c)))) (fun i _ => c - (intOf i).toNat)
  case atStart => exact ⟨0, Nat.zero_le _, rfl, H, Lib.hid ⟨rfl, rfl, rfl, Nat.le_refl _, fun _ _ _ => rfl⟩⟩
  case round =>
    obtain ⟨q, hq, rfl, HR, HG⟩ := hrel
    by_cases hlt : q < c
    · obtain ⟨zs, hw, hl, ho⟩ := HR.out
      obtain ⟨g, hA⟩ : ∃ g, A = some ⟨g, 0, none⟩ := by
        rcases ho.2 with ⟨he, h0⟩ | ⟨g, cap, cur, he, _⟩
        · omega
        · injection he with he; exact ⟨g, he⟩
      subst hA
      obtain ⟨o1, o2⟩ := own_at' ho q hlt
      have hx : 0 ≤ rd zs (q : Int) ∧ rd zs (q : Int) < 256 := rd_byte hw q
      obtain ⟨x, hx0⟩ : ∃ x, x = rd zs (q : Int) := ⟨_, rfl⟩
      rw [← hx0] at o1 hx
      have HO := Lib.hid ho
      have HW := Lib.hid hw
      have HL := Lib.hid hl
      obtain ⟨y, hy⟩ : ∃ y, y = (x + by_) % 256 := ⟨_, rfl⟩
      have hy1 : 0 ≤ y ∧ y ≤ 255 := by omega
      have e1 : IntKind.u8.wrap (x + by_) = y := by rw [hy]; simp [IntKind.wrap, IntKind.signed, IntKind.bits]
      have e2 : (x + by_) % 256 = y := hy.symm
      clear ho hw hl hx0 hy
      go_wp2
      go_roundw
      case rel =>
        refine ⟨q + 1, by omega, by go_num, Lib.hid ⟨zs.set q y, spoil_wf HW.out hy1, by rw [List.length_set]; exact HL.out, ?_⟩, Lib.hid ?_⟩
        · have h := (own_store HO.out (q : Int) y).1
          rwa [Int.toNat_natCast] at h
        · have h := (own_store HO.out (q : Int) y).2
          rw [Int.toNat_natCast] at h
          have h0 := HG.out
          exact ⟨h.os.trans h0.os, h.tape.trans h0.tape, h.output.trans h0.output, Nat.le_trans h0.size h.size, fun k hk hne => (h.block k (Nat.lt_of_lt_of_le hk h0.size) hne).trans (h0.block k hk hne)⟩
      case measure => simp [intOf]; omega
    · obtain rfl : q = c := by omega
      go_wp2
      first | go_end0 | go_ret
      exact ⟨rfl, HG.out⟩
end Go.Proofs.Ytdchcggllcgokaa.U
