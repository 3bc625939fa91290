/-
  A slice of acts that came in, opened; ashlarlaw10.RosterPlays: true.
-/
import Derived.Test.YtdchcggllcgokaaRos29
import Derived.Deep.Slices
import Derived.Deep.Strs
import Derived.ChangeArms
namespace Go.Proofs.Ytdchcggllcgokaa.Q
open Go.RowKit Go.Proofs.Ytdchcggllcgokaa.L Go.Proofs.Ytdchcggllcgokaa.R Go.Proofs.YtdchcggllcgokaaW.PrintWords
set_option linter.unusedVariables false
set_option linter.unusedSimpArgs false
theorem cells_int : Try.prog.cellsOf 3 = 1 := by kernel_rfl
theorem cells_bool : Try.prog.cellsOf 4 = 1 := by kernel_rfl
theorem cells_act : Try.prog.cellsOf 106 = 3 := by kernel_rfl
theorem list3 {v0 v1 v2 : Value} {cs : List Value} (hl : cs.length = 3) (h0 : (cs.drop 0).take 1 = [v0]) (h1 : (cs.drop 1).take 1 = [v1]) (h2 : (cs.drop 2).take 1 = [v2]) : cs = [v0, v1, v2] := by
  match cs, hl with
  | [a, b, c], _ => simp at h0 h1 h2; rw [h0, h1, h2]
theorem open_acts {H : Type} {enc : TypeId × Value → H} {w : World} {fuel : Nat} {a : Option Addr} {len cap : Nat} {x : DataW H × List MemPlace}
    (h : DataW.trod enc Try.prog w 0 (fun _ => true) true fuel 103 [.slice a len cap] = some x) : ∃ l : List (Int × Int × Bool), len = l.length ∧ ActsAt w a l := by
  rcases Go.Deep.open_slice Try.underlying103 h with ⟨hc, hx⟩ | ⟨a', len', cap', m, n, D, Pl, hc, hb, hl, hm, hmm, hx, hall⟩
  · simp at hc
    obtain ⟨rfl, rfl, rfl⟩ := hc
    exact ⟨[], rfl, by decide, fun h0 => absurd h0 (by decide)⟩
  · simp at hc
    obtain ⟨rfl, rfl, rfl⟩ := hc
    rw [if_pos rfl] at hmm
    subst hmm
    rw [cells_act] at hall
    have key : ∀ i, i < len → ∃ p : Int × Int × Bool, (a'.add (i * 3)).block < w.heap.size ∧ ∀ j v, ([.int .i64 p.1, .int .i64 p.2.1, .bool p.2.2] : List Value)[j]? = some v → w.cell? ((a'.add (i * 3)).add j) = some v := fun i hi => by
      obtain ⟨cs, hcs, ht⟩ := hall i (by omega)
      obtain ⟨y0, y1, y2, n', -, hlen, h0, h1, h2⟩ := Go.Deep.trod_struct3 Try.underlying106 ht
      simp only [cells_int, cells_bool] at h0 h1 h2
      obtain ⟨d, e0, -⟩ := DataW.trod_int Try.underlying3 h0
      obtain ⟨k, e1, -⟩ := DataW.trod_int Try.underlying3 h1
      obtain ⟨g, e2, -⟩ := DataW.trod_bool Try.underlying4 h2
      obtain rfl := list3 (hlen.trans cells_act) e0 e1 e2
      obtain ⟨-, -, hg⟩ := World.cells?_some hcs
      refine ⟨(d, k, g), World.cells?_block hcs (by decide), fun j v hv => ?_⟩
      have hj : j < 3 := (List.getElem?_eq_some_iff.1 hv).1
      rw [hg j hj]; exact hv
    obtain ⟨f, hf⟩ := Go.Deep.choose_lt key
    have h9 : maxLen ≤ 9223372036854775807 := by decide
    refine ⟨(List.range len).map f, by simp, by simp; omega, fun h0 => ?_⟩
    have hl0 : 0 < len := by simpa using h0
    obtain ⟨b, o, sp⟩ := a'
    have hsp : sp = none := by
      have h1 := World.cell?_spot ((hf 0 hl0).2 0 _ rfl)
      simpa [Addr.add] using h1
    subst hsp
    refine ⟨b, o, rfl, ?_, fun j p hp i v hv => ?_⟩
    · have h1 := (hf 0 hl0).1
      rw [Addr.add_mid] at h1; exact h1
    · have hj : j < len := by have := (List.getElem?_eq_some_iff.1 hp).1; simpa using this
      have he : f j = p := by
        rw [List.getElem?_map, List.getElem?_range hj] at hp
        simpa using hp
      subst he
      have h1 := (hf j hj).2 i v hv
      rw [Addr.add_mid, Addr.add_mid] at h1
      exact h1
theorem plays_any (a1 a2 : Int) (w1 : (Lit.int .u8 a1).wf = true) (w2 : (Lit.int .u8 a2).wf = true) (A : Option Addr) (cap : Nat) (l : List (Int × Int × Bool)) (w : World) (HA : ActsAt w A l) :
    Calls Try.prog 25 #[.int .u8 a1, .int .u8 a2, .slice A l.length cap] w fun e w' => e = .returned (.bool true) ∧ Below w.heap.size w w' := by
  have P0 := fun w => geo_any a1 a2 w1 w2 w
  obtain ⟨b1, b2⟩ := bounds_u8 w1
  obtain ⟨b3, b4⟩ := bounds_u8 w2
  obtain ⟨m, hm⟩ : ∃ m, m = 3 + a1 % 14 := ⟨_, rfl⟩
  obtain ⟨s, hs⟩ : ∃ s, s = 1 + a2 % 64 := ⟨_, rfl⟩
  rw [← hm, ← hs] at P0
  have m1 : 3 ≤ m := by omega
  have m2 : m ≤ 16 := by omega
  have hG : mayG m s 40 = true := decide_eq_true (by omega)
  clear hm hs
  have P1 := fun w => New_any m s 40 w
  rw [newR, if_pos hG] at P1
  exact Plays_walk a1 a2 m s A cap l m1 m2 { ro0 with m := m, s := s, r := 40 } (Lib.hid rfl) (Lib.hid ⟨Wf_rog m s 40, (mayR_new m s 40).trans hG, rfl⟩) (Lib.hid P0) (Lib.hid P1)
    (Lib.hid fun x hx h hm d k g => by
      obtain ⟨y, q1, q2, q3, q4⟩ := acts_any x hx h d k g
      exact ⟨y, q1, q2, q3.trans hm, q4⟩)
    (Lib.hid fun x hx h w => by have p := May_any x hx w; rw [h] at p; exact p) (Lib.hid fun x hx _ w => Missing_any x hx w) (Lib.hid fun x hx _ w => State_any x hx w) (Lib.hid fun w => lives_any w) w (Lib.hid HA)
end Go.Proofs.Ytdchcggllcgokaa.Q
