/-
  ashlarlaw11.CellsBack: true.
-/
import Derived.Test.YtdchcggllcgokaaCeD
namespace Go.Proofs.Ytdchcggllcgokaa.Y
open Go.RowKit Go.Proofs.Ytdchcggllcgokaa.L Go.Proofs.Ytdchcggllcgokaa.U Go.Proofs.Ytdchcggllcgokaa.R Go.Proofs.Ytdchcggllcgokaa.E Go.Proofs.YtdchcggllcgokaaW.PrintWords
set_option linter.unusedVariables false
set_option linter.unusedSimpArgs false
section
variable {P : Program} {ops : Array Oper} {Q : Exit → Act → World → Prop} {md : Region.Mode} {S : World → Prop}
/-- two operations may come up -/
theorem hTwo (i j : Nat) {oi oj : Oper} {fuel : Nat} {listed : Array Bool} {a : Act} {w : World} (hi : ops[i]? = some oi) (hj : ops[j]? = some oj) (hr : Region.ready md ops listed = [i, j])
    (h1 : ∀ K : Act → World → Prop, Shut (∀ a w, S w → (S w → wpAnyH P md ops Q S fuel (listed.setIfInBounds i true) a w) → K a w) → if Region.wanted oi (yielded ops a.tmps) = true then Oper.wp P oi a w K Q else K (a.put oi.dst undef) w)
    (h2 : ∀ K : Act → World → Prop, Shut (∀ a w, S w → (S w → wpAnyH P md ops Q S fuel (listed.setIfInBounds j true) a w) → K a w) → if Region.wanted oj (yielded ops a.tmps) = true then Oper.wp P oj a w K Q else K (a.put oj.dst undef) w) : wpAnyH P md ops Q S (fuel + 1) listed a w :=
  wpAnyH_ready hr (by simp) (AllReadyH.cons hi h1 (AllReadyH.cons hj h2 AllReadyH.nil))
theorem wp_append_els {o : Oper} {a : Act} {K : Act → World → Prop} {w0 W : World} (base : Nat) (s x : Operand) (t e : TypeId) (z : Value) (k bytes : Nat)
    (ho : o.op = .call { callee := .builtin .append, args := #[s, x], argTypes := #[t, t] })
    (ht : P.underlying t = some (.slice e)) (hinfo : (P.info? e).map (fun i => (i.zero, i.size, i.bytes)) = some (some z, k, bytes)) (hz : z.cells.size = k) (hk : 0 < k) (hb0 : 0 < bytes)
    (v : Value) (n : Nat) (xs : List Value) (b : List Value) (g c : Nat) (hs : a.eval s = v) (hx : a.eval x = .slice (some ⟨g, 0, none⟩) 1 c) (hbk : b.length = k)
    (HO : W.ownsRow base e k v n xs) (HR : W.rangeAt g 0 b) (h1 : ∀ u ∈ b, u.oneCell' = true) (HB : Below base w0 W) (hbase : base ≤ W.heap.size) (hl : (n + 1) * bytes ≤ 140737488355328) (d : Option Tmp) (hd : o.dst = d)
    (h : ∀ v1 w1, w1.ownsRow base e k v1 (n + 1) (xs ++ b) → Below base w0 w1 → W.grownBy w1 v.ownBlock → (v1.ownBlock = v.ownBlock ∨ ∃ b, v1.ownBlock = some b ∧ W.heap.size ≤ b) → K (a.put d v1) w1) :
    Oper.wp P o a W K Q := by
  subst hd
  obtain ⟨i0, hi, hzz⟩ := Option.map_eq_some_iff.1 hinfo
  simp only [Prod.mk.injEq] at hzz
  obtain ⟨hz0, hz1, hz2⟩ := hzz
  have hlen : n + 1 ≤ 140737488355328 := Nat.le_trans (Nat.le_mul_of_pos_right _ hb0) hl
  have hcells : ∀ j u, b[j]? = some u → W.cell? ((⟨g, 0, none⟩ : Addr).add j) = some u := fun j u hu => by
    rw [Addr.add_mid]; exact HR j u hu
  obtain ⟨v1, w1, hr, hown, hg, _, hat⟩ := run_append_own_at (P := P) W base t o.type e i0 z k bytes ht hi hz0 hz1 hz2 hz hk v n xs HO ⟨g, 0, none⟩ 1 c b (by rw [hbk, Nat.one_mul]) hcells h1 (by simp only [maxLen]; omega) hl hbase
  unfold Oper.wp execOp
  simp only [ho, resolve, invoke, builtin, Sem.run_bind, Sem.run_pure, Result.andThen_ok, List.map_toArray, List.map_cons, List.map_nil, hs, hx, hr]
  refine h v1 w1 hown (HB.grown hg hbase (own_base HO)) hg ?_
  rcases hat with hat | hat
  · exact .inl hat
  · exact .inr ⟨_, hat, Nat.le_refl _⟩
end
theorem wp_callFn2 {op : Oper} {a : Act} {w : World} {K : Act → World → Prop} {Q : Exit → Act → World → Prop} (f : Nat) (hcf : ∀ (args : Array Value) (w : World), (callFunc f args).run Try.prog w = .ok (.enter f args) w) (x y : Operand) (ts : Array TypeId) (ho : op.op = .call { callee := .value (.func f), args := #[x, y], argTypes := ts }) (v u : Value) (hv : a.eval x = v) (hu : a.eval y = u) (d : Option Tmp) (hd : op.dst = d) {R : Ending → World → Prop} (hc : Calls Try.prog f #[v, u] w R)
    (h : ∀ e w', R e w' → ∃ r, e = .returned r ∧ K (a.put d r) w') : Oper.wp Try.prog op a w K Q := by
  subst hd
  have ef : a.eval (.func f) = .func (.func f) #[] #[] := rfl
  have hx : (execOp a.eval op).run Try.prog w = .ok (.enter f #[v, u]) w := by
    unfold execOp
    simp [ho, resolve, Deferred.ofValue, invoke, ef, hv, hu, hcf]
  unfold Oper.wp
  rw [hx, Oper.upon_enter]
  refine hc.mono fun e w' he => ?_
  obtain ⟨r, rfl, hk⟩ := h e w' he
  exact hk
theorem wp_bsBlk {op : Oper} {a : Act} {w : World} {K : Act → World → Prop} {Q : Exit → Act → World → Prop} (x : Operand) (ho : op.op = .buildSlice 42 1 #[(0, x)]) {b : List Int} (hb : b.length = 64) (hx : a.eval x = blk b) (d : Option Tmp) (hd : op.dst = d)
    (h : ∀ w1, Row TB w1 w.heap.size (nums .u8 b).toArray → Below w.heap.size w w1 → K (a.put d (.slice (some ⟨w.heap.size, 0, none⟩) 1 1)) w1) : Oper.wp Try.prog op a w K Q := by
  subst hd
  have hg := World.grownBy_alloc w (.cells (nums .u8 b).toArray TB) none
  unfold Oper.wp execOp
  simp only [ho, List.map_toArray, List.map_cons, List.map_nil, hx, run_bsBlk hb, Sem.run_bind, Sem.run_map, Sem.run_pure, Result.andThen_ok]
  exact h _ (heap_alloc_last w _) (grown_below hg)
theorem run_ldB {op : Oper} {a : Act} {w : World} (x : Operand) (ho : op.op = .load 50 x) {g : Nat} {b : List Int} (hk : Blk w g b) (hx : a.eval x = .pointer (some ⟨g, 0, none⟩)) : (execOp a.eval op).run Try.prog w = .ok (.value (blk b)) w :=
  run_blkMid x ho hk.1 (row_range hk.2) hx
theorem run_lenC {op : Oper} {a : Act} (x : Operand) (ho : op.op = .call { callee := .builtin .len, args := #[x], argTypes := #[40] }) {A : Option Addr} {n c : Nat} (hx : a.eval x = .slice A n c) (hn : n ≤ 9223372036854775807) (w : World) : (execOp a.eval op).run Try.prog w = .ok (.value (.int .i64 (n : Int))) w := by
  have h1 : -9223372036854775808 ≤ (n : Int) := by omega
  have h2 : (n : Int) ≤ 9223372036854775807 := by omega
  unfold execOp
  simp only [ho, resolve, invoke, builtin, Sem.run_bind, Sem.run_pure, Result.andThen_ok, List.map_toArray, List.map_cons, List.map_nil, hx]
  go_simp
theorem own_bks {b : Nat} {W : World} {A : Option Addr} {c : Nat} {l : List (List Int)} {v : Value} (h64 : ∀ x ∈ l, x.length = 64) (h : W.ownsRow b TB 64 v l.length (l.map (nums .u8)).flatten) : ∃ A c, v = .slice A l.length c ∧ Bks W A l := by
  obtain ⟨A, c, rfl⟩ := own_slice h
  have hO : OBk b W A c l := ⟨h64, h⟩
  exact ⟨A, c, rfl, hO.bks⟩
set_option maxRecDepth 100000 in
set_option maxHeartbeats 2000000 in
theorem back_no (A : Option Addr) (cap : Nat) (l : List Ce) (M : List Int) (HM : Hid (M.length = 64)) (k : Int) (hk : (k != 0) = true)
    (P1 : Hid (∀ (A : Option Addr) (c : Nat) (w : World), Cls w A l → Calls Try.prog 47 #[.slice A l.length c] w fun e w' => (∃ A c, e = .returned (.tuple #[.slice A 0 c, .int .i64 k])) ∧ Below w.heap.size w w'))
    (PL : Hid (∀ w : World, Calls Try.prog 53 #[] w fun e w' => e = .returned (.bool true) ∧ Below w.heap.size w w'))
    (w : World) (HL : Hid (Cls w A l)) : Calls Try.prog 9 #[.slice A l.length cap, blk M] w fun e w' => e = .returned (.bool true) ∧ Below w.heap.size w w' := by
  have HB := Lib.hid (Below.refl w.heap.size w)
  have tok0 : True := trivial
  go_enter Try.func9, Try.ntmps9
  go_wp2_with (first
    | (go_skip)
    | (have _t := tok0; refine F.blkBox (.tmp 1) rfl rfl HM.out rfl ?_; intro w1 hk hb hz1; replace HL := Lib.hid (HL.out.below hb); replace HB := Lib.hid (below_ext HB.out hb); clear hk hb _t tok0)
    | (go_at_call 47; refine (P1.out _ _ _ HL.out).mono ?_; rintro e w9 ⟨⟨A2, c2, rfl⟩, hb⟩; replace HB := Lib.hid (below_ext HB.out hb); clear hb)
    | (go_at_call 53; refine (PL.out _).mono ?_; rintro e w9 ⟨rfl, hb⟩; replace HB := Lib.hid (below_ext HB.out hb); clear hb))
  go_ret
  exact ⟨rfl, HB.out⟩
theorem Blk.grownV {W W1 : World} {g : Nat} {xs : List Int} {v : Option Nat} (h : Blk W g xs) (hg : W.grownBy W1 v) (hne : ∀ k, v = some k → g < k) : Blk W1 g xs :=
  ⟨h.1, blk_grown h.2 hg (fun e => by have := hne g e.symm; omega)⟩
theorem Bks.front {W : World} {A : Option Addr} {l : List (List Int)} (h : Bks W A l) : Bks W A l.dropLast := by
  refine ⟨fun b hb => h.1 b (by rw [List.dropLast_eq_take] at hb; exact List.mem_of_mem_take hb), ⟨by have := h.2.1; simp at this ⊢; omega, fun h0 => ?_⟩⟩
  obtain ⟨g, o, e, hlt, hr⟩ := h.2.2 (by simp at h0 ⊢; omega)
  refine ⟨g, o, e, hlt, fun j v hv => hr j v ?_⟩
  rw [List.dropLast_eq_take, List.map_take, List.getElem?_take] at hv
  split at hv
  · exact hv
  · exact absurd hv (by simp)
set_option maxRecDepth 100000 in
set_option maxHeartbeats 2000000 in
theorem back_ok (A : Option Addr) (cap : Nat) (l : List Ce) (L : List (List Int)) (N : Nat) (M : List Int) (HM : Hid (M.length = 64)) (HLN : Hid (L.length = N + 1)) (HL64 : Hid (∀ b ∈ L, b.length = 64)) (hN : N ≤ 64)
    (P1 : Hid (∀ (A : Option Addr) (c : Nat) (w : World), Cls w A l → Calls Try.prog 47 #[.slice A l.length c] w fun e w' => (∃ A c, e = .returned (.tuple #[.slice A (N + 1) c, .int .i64 0]) ∧ N + 1 ≤ c ∧ Bks w' A L) ∧ Below w.heap.size w w'))
    (P2 : Hid (∀ (A : Option Addr) (c : Nat) (w : World), Bks w A L → Calls Try.prog 54 #[.slice A (N + 1) c, .int .i64 (l.length : Int)] w fun e w' => (∃ A c, e = .returned (.tuple #[.slice A l.length c, .int .i64 0]) ∧ Cls w' A l) ∧ Below w.heap.size w w'))
    (P3 : Hid (∀ (A : Option Addr) (c : Nat) (w : World), Bks w A (L ++ [M]) → Calls Try.prog 54 #[.slice A (N + 1 + 1) c, .int .i64 (l.length : Int)] w fun e w' => (∃ A c, e = .returned (.tuple #[.slice A 0 c, .int .i64 5])) ∧ Below w.heap.size w w'))
    (P4 : Hid (∀ (A : Option Addr) (c : Nat) (w : World), Bks w A L.dropLast → Calls Try.prog 54 #[.slice A N c, .int .i64 (l.length : Int)] w fun e w' => (∃ A c, e = .returned (.tuple #[.slice A 0 c, .int .i64 4])) ∧ Below w.heap.size w w'))
    (PK : Hid (∀ (A : Option Addr) (c : Nat) (w : World), Bks w A L → Calls Try.prog 55 #[.slice A (N + 1) c] w fun e w' => (∃ A' c', e = .returned (.slice A' (N + 1) c') ∧ w'.ownsRow w.heap.size TB 64 (.slice A' (N + 1) c') (N + 1) (L.map (nums .u8)).flatten) ∧ Below w.heap.size w w'))
    (S1 : Hid (∀ w : World, Calls Try.prog 49 #[.int .i64 (l.length : Int)] w fun e w' => e = .returned (.int .i64 ((N : Int) + 1)) ∧ w = w'))
    (PC : Hid (∀ (A B : Option Addr) (c d : Nat) (w : World), Cls w A l → Cls w B l → Calls Try.prog 52 #[.slice A l.length c, .slice B l.length d] w fun e w' => e = .returned (.bool true) ∧ Below w.heap.size w w'))
    (PL : Hid (∀ w : World, Calls Try.prog 53 #[] w fun e w' => e = .returned (.bool true) ∧ Below w.heap.size w w'))
    (w : World) (HL : Hid (Cls w A l)) : Calls Try.prog 9 #[.slice A l.length cap, blk M] w fun e w' => e = .returned (.bool true) ∧ Below w.heap.size w w' := by
  have HB := Lib.hid (Below.refl w.heap.size w)
  have tok0 : True := trivial
  have tk1 : True := trivial
  have tk4 : True := trivial
  have n0 : (0 : Int) ≤ (N : Int) := by omega
  have f1 : ((N : Int) + 1 == 0) = false := by rw [beq_eq_false_iff_ne]; omega
  have f2 : (((N + 1 : Nat) : Int) == 0) = false := by rw [beq_eq_false_iff_ne]; omega
  have HLM := Lib.hid (show ∀ x ∈ L ++ [M], x.length = 64 from fun x hx => by
    rcases List.mem_append.1 hx with h | h
    · exact HL64.out x h
    · obtain rfl := List.mem_singleton.1 h; exact HM.out)
  go_enter Try.func9, Try.ntmps9
  go_wp2_with (first
    | (go_skip)
    | (have _t := tok0; refine F.blkBox (.tmp 1) rfl rfl HM.out rfl ?_; intro w1 hk hb hz1; replace HL := Lib.hid (HL.out.below hb); replace HB := Lib.hid (below_ext HB.out hb); have KM := Lib.hid hk; clear hk hb _t tok0)
    | (go_at_call 47; refine (P1.out _ _ _ HL.out).mono ?_; rintro e w9 ⟨⟨A5, c5, rfl, hc5, h2⟩, hb⟩; replace HL := Lib.hid (HL.out.below hb); replace KM := Lib.hid (KM.out.below hb); replace HB := Lib.hid (below_ext HB.out hb); have B1 := Lib.hid h2; clear h2; clear hb)
    | (have _t := tk1; go_at_call 54; refine (P2.out _ _ _ B1.out).mono ?_; rintro e w9 ⟨⟨A3, c3, rfl, h3⟩, hb⟩; replace HL := Lib.hid (HL.out.below hb); replace KM := Lib.hid (KM.out.below hb); replace B1 := Lib.hid (B1.out.below hb); replace HB := Lib.hid (below_ext HB.out hb); have C3 := Lib.hid h3; clear h3 _t tk1; clear hb)
    | (go_at_call 52; refine (PC.out _ _ _ _ _ C3.out HL.out).mono ?_; rintro e w9 ⟨rfl, hb⟩; replace HL := Lib.hid (HL.out.below hb); replace KM := Lib.hid (KM.out.below hb); replace B1 := Lib.hid (B1.out.below hb); replace HB := Lib.hid (below_ext HB.out hb); clear hb)
    | (go_at_call 49; refine (S1.out _).mono ?_; rintro e w5 ⟨rfl, rfl⟩))
  have HGM := Lib.hid (show w.heap.size < w9.drew.heap.size from KM.out.lt)
  refine wp_region_held_drew (S := fun w' => Blk w' w.heap.size M) (by kernel_rfl) (show Blk w9.drew w.heap.size M from KM.out) (fun hHeld => ?_)
  refine hTake 0 (.slice A5 (N + 1) c5) rfl (some 50) rfl (by kernel_rfl) (by kernel_rfl) (by kernel_rfl) (fun _ _ _ h => h) rfl (fun _ _ => rfl) hHeld ?_
  simp only [Act.put, List.setIfInBounds_toArray, List.set_cons_zero, List.set_cons_succ]
  refine hTake 2 (blk M) rfl (some 52) rfl (by kernel_rfl) (by kernel_rfl) (by kernel_rfl) (fun _ _ _ h => h) rfl (fun w' h => run_ldB (.tmp 3) rfl h rfl) hHeld ?_
  simp only [Act.put, List.setIfInBounds_toArray, List.set_cons_zero, List.set_cons_succ]
  refine hTake 5 (.slice A l.length cap) rfl (some 55) rfl (by kernel_rfl) (by kernel_rfl) (by kernel_rfl) (fun _ _ _ h => h) rfl (fun _ _ => rfl) hHeld ?_
  simp only [Act.put, List.setIfInBounds_toArray, List.set_cons_zero, List.set_cons_succ]
  refine hTake 6 (.int .i64 (l.length : Int)) rfl (some 56) rfl (by kernel_rfl) (by kernel_rfl) (by kernel_rfl) (fun _ _ _ h => h) rfl (fun w' _ => run_lenC (.tmp 55) rfl rfl HL.out.cap w') hHeld ?_
  simp only [Act.put, List.setIfInBounds_toArray, List.set_cons_zero, List.set_cons_succ]
  refine hTwo 1 3 rfl rfl (by kernel_rfl) (fun K hK => ?_) (fun K hK => ?_)
  · rw [if_pos (by rfl)]
    refine wp_callFn 55 Try.call55 (.tmp 50) _ rfl (.slice A5 (N + 1) c5) rfl (some 51) rfl (PK.out A5 c5 w9.drew (show Bks w9.drew A5 L from B1.out)) ?_
    rintro e w5 ⟨⟨A6, c6, rfl, ho5⟩, hb5⟩
    refine ⟨_, rfl, ?_⟩
    simp only [Act.put, List.setIfInBounds_toArray, List.set_cons_zero, List.set_cons_succ]
    refine hK.out _ _ (show Blk w5 w.heap.size M from Blk.below (show Blk w9.drew w.heap.size M from KM.out) hb5) (fun hHeld => ?_)
    clear hK K
    refine hOnly 3 rfl (by kernel_rfl) (fun K hK => ?_)
    rw [if_pos (by rfl)]
    refine wp_bsBlk (.tmp 52) rfl HM.out rfl (some 53) rfl ?_
    intro w6 hk6 hb6
    simp only [Act.put, List.setIfInBounds_toArray, List.set_cons_zero, List.set_cons_succ]
    refine hK.out _ _ (Blk.below hHeld hb6) (fun hHeld => ?_)
    clear hK K
    have HO6 := Lib.hid (pw_own_below ho5 hb6)
    have HB6 := Lib.hid (below_ext hb5 hb6)
    have K6 := Lib.hid hk6
    clear ho5 hb5 hb6 hk6
    refine hOnly 4 rfl (by kernel_rfl) (fun K hK => ?_)
    rw [if_pos (by rfl)]
    refine wp_append_els (w0 := w9.drew) w9.drew.heap.size (.tmp 51) (.tmp 53) 42 TB zeroBlkV 64 64 rfl Try.underlying42 infoB zsB (by decide) (by decide) (.slice A6 (N + 1) c6) (N + 1) (L.map (nums .u8)).flatten (nums .u8 M) _ 1 rfl rfl (by rw [nums_length, HM.out]) HO6.out (row_range K6.out) (one_nums M) HB6.out HB6.out.size (by omega) (some 54) rfl ?_
    intro v1 w7 ho7 hb7 hg7 hat7
    simp only [Act.put, List.setIfInBounds_toArray, List.set_cons_zero, List.set_cons_succ]
    refine hK.out _ _ (Blk.grownV hHeld hg7 (fun k hk => Nat.lt_of_lt_of_le HGM.out (own_base HO6.out k hk))) (fun hHeld => ?_)
    clear hK K
    obtain ⟨A7, c7, rfl, hb7k⟩ := own_bks (A := none) (c := 0) (l := L ++ [M]) HLM.out (by rw [List.map_append, List.flatten_append, List.length_append, HLN.out]; simpa using ho7)
    rw [List.length_append, HLN.out]
    refine hOnly 7 rfl (by kernel_rfl) (fun K hK => ?_)
    rw [if_pos (by rfl)]
    refine wp_callFn2 54 Try.call54 (.tmp 54) (.tmp 56) _ rfl (.slice A7 (N + 1 + 1) c7) (.int .i64 (l.length : Int)) rfl rfl (some 57) rfl (P3.out A7 c7 w7 hb7k) ?_
    rintro e w8 ⟨⟨A8, c8, rfl⟩, hb8⟩
    refine ⟨_, rfl, ?_⟩
    simp only [Act.put, List.setIfInBounds_toArray, List.set_cons_zero, List.set_cons_succ]
    refine hK.out _ _ (Blk.below hHeld hb8) (fun hHeld => ?_)
    clear hK K
    refine hTake 8 (.tuple #[.slice A8 0 c8, .int .i64 5]) rfl (some 49) rfl (by kernel_rfl) (by kernel_rfl) (by kernel_rfl) (fun _ _ _ h => h) rfl (fun _ _ => rfl) hHeld ?_
    simp only [Act.put, List.setIfInBounds_toArray, List.set_cons_zero, List.set_cons_succ]
    refine hTake 9 (.slice A8 0 c8) rfl (some 58) rfl (by kernel_rfl) (by kernel_rfl) (by kernel_rfl) (fun _ _ _ h => h) rfl (fun _ _ => rfl) hHeld ?_
    simp only [Act.put, List.setIfInBounds_toArray, List.set_cons_zero, List.set_cons_succ]
    refine hTake 10 (.int .i64 5) rfl (some 59) rfl (by kernel_rfl) (by kernel_rfl) (by kernel_rfl) (fun _ _ _ h => h) rfl (fun _ _ => rfl) hHeld ?_
    simp only [Act.put, List.setIfInBounds_toArray, List.set_cons_zero, List.set_cons_succ]
    refine hTake 11 (.slice A8 0 c8) rfl (some 9) rfl (by kernel_rfl) (by kernel_rfl) (by kernel_rfl) (fun _ _ _ h => h) rfl (fun _ _ => rfl) hHeld ?_
    simp only [Act.put, List.setIfInBounds_toArray, List.set_cons_zero, List.set_cons_succ]
    refine hTake 12 (.int .i64 5) rfl (some 10) rfl (by kernel_rfl) (by kernel_rfl) (by kernel_rfl) (fun _ _ _ h => h) rfl (fun _ _ => rfl) hHeld ?_
    simp only [Act.put, List.setIfInBounds_toArray, List.set_cons_zero, List.set_cons_succ]
    refine wpAnyH_done (by kernel_rfl) ?_ _
    have hbr := below_ext (show Below w9.heap.size w9 w7 from below_ext (below_drewN (Below.refl w9.heap.size w9) 1) hb7) hb8
    replace B1 := Lib.hid (B1.out.below hbr)
    replace HB := Lib.hid (below_ext HB.out hbr)
    clear hbr hHeld hb7 hg7 hat7 ho7 hb7k hb8
    go_wp2_with (first
      | (go_skip)
      | (have _t := tk4; go_at_call 54; refine (P4.out _ _ _ (B1.out.front)).mono ?_; rintro e w9 ⟨⟨A9, c9, rfl⟩, hb⟩; replace HB := Lib.hid (below_ext HB.out hb); clear hb _t tk4)
        | (go_at_call 53; refine (PL.out _).mono ?_; rintro e w9 ⟨rfl, hb⟩; replace HB := Lib.hid (below_ext HB.out hb); clear hb))
    go_ret
    exact ⟨rfl, HB.out⟩
  · rw [if_pos (by rfl)]
    refine wp_bsBlk (.tmp 52) rfl HM.out rfl (some 53) rfl ?_
    intro w4 hk4 hb4
    simp only [Act.put, List.setIfInBounds_toArray, List.set_cons_zero, List.set_cons_succ]
    refine hK.out _ _ (show Blk w4 w.heap.size M from Blk.below (show Blk w9.drew w.heap.size M from KM.out) hb4) (fun hHeld => ?_)
    clear hK K
    refine hOnly 1 rfl (by kernel_rfl) (fun K hK => ?_)
    rw [if_pos (by rfl)]
    refine wp_callFn 55 Try.call55 (.tmp 50) _ rfl (.slice A5 (N + 1) c5) rfl (some 51) rfl (PK.out A5 c5 w4 (B1.out.below (show Below w9.heap.size w9 w4 from below_ext (below_drewN (Below.refl w9.heap.size w9) 1) hb4))) ?_
    rintro e w6 ⟨⟨A6, c6, rfl, ho6⟩, hb6⟩
    refine ⟨_, rfl, ?_⟩
    simp only [Act.put, List.setIfInBounds_toArray, List.set_cons_zero, List.set_cons_succ]
    refine hK.out _ _ (Blk.below hHeld hb6) (fun hHeld => ?_)
    clear hK K
    have HO6 := Lib.hid (own_lower (base' := w9.drew.heap.size) ho6 hb4.size)
    have HB6 := Lib.hid (below_ext hb4 hb6)
    have K6 := Lib.hid (hk4.below hb6)
    clear ho6 hb4 hb6 hk4
    refine hOnly 4 rfl (by kernel_rfl) (fun K hK => ?_)
    rw [if_pos (by rfl)]
    refine wp_append_els (w0 := w9.drew) w9.drew.heap.size (.tmp 51) (.tmp 53) 42 TB zeroBlkV 64 64 rfl Try.underlying42 infoB zsB (by decide) (by decide) (.slice A6 (N + 1) c6) (N + 1) (L.map (nums .u8)).flatten (nums .u8 M) _ 1 rfl rfl (by rw [nums_length, HM.out]) HO6.out (row_range K6.out) (one_nums M) HB6.out HB6.out.size (by omega) (some 54) rfl ?_
    intro v1 w7 ho7 hb7 hg7 hat7
    simp only [Act.put, List.setIfInBounds_toArray, List.set_cons_zero, List.set_cons_succ]
    refine hK.out _ _ (Blk.grownV hHeld hg7 (fun k hk => Nat.lt_of_lt_of_le HGM.out (own_base HO6.out k hk))) (fun hHeld => ?_)
    clear hK K
    obtain ⟨A7, c7, rfl, hb7k⟩ := own_bks (A := none) (c := 0) (l := L ++ [M]) HLM.out (by rw [List.map_append, List.flatten_append, List.length_append, HLN.out]; simpa using ho7)
    rw [List.length_append, HLN.out]
    refine hOnly 7 rfl (by kernel_rfl) (fun K hK => ?_)
    rw [if_pos (by rfl)]
    refine wp_callFn2 54 Try.call54 (.tmp 54) (.tmp 56) _ rfl (.slice A7 (N + 1 + 1) c7) (.int .i64 (l.length : Int)) rfl rfl (some 57) rfl (P3.out A7 c7 w7 hb7k) ?_
    rintro e w8 ⟨⟨A8, c8, rfl⟩, hb8⟩
    refine ⟨_, rfl, ?_⟩
    simp only [Act.put, List.setIfInBounds_toArray, List.set_cons_zero, List.set_cons_succ]
    refine hK.out _ _ (Blk.below hHeld hb8) (fun hHeld => ?_)
    clear hK K
    refine hTake 8 (.tuple #[.slice A8 0 c8, .int .i64 5]) rfl (some 49) rfl (by kernel_rfl) (by kernel_rfl) (by kernel_rfl) (fun _ _ _ h => h) rfl (fun _ _ => rfl) hHeld ?_
    simp only [Act.put, List.setIfInBounds_toArray, List.set_cons_zero, List.set_cons_succ]
    refine hTake 9 (.slice A8 0 c8) rfl (some 58) rfl (by kernel_rfl) (by kernel_rfl) (by kernel_rfl) (fun _ _ _ h => h) rfl (fun _ _ => rfl) hHeld ?_
    simp only [Act.put, List.setIfInBounds_toArray, List.set_cons_zero, List.set_cons_succ]
    refine hTake 10 (.int .i64 5) rfl (some 59) rfl (by kernel_rfl) (by kernel_rfl) (by kernel_rfl) (fun _ _ _ h => h) rfl (fun _ _ => rfl) hHeld ?_
    simp only [Act.put, List.setIfInBounds_toArray, List.set_cons_zero, List.set_cons_succ]
    refine hTake 11 (.slice A8 0 c8) rfl (some 9) rfl (by kernel_rfl) (by kernel_rfl) (by kernel_rfl) (fun _ _ _ h => h) rfl (fun _ _ => rfl) hHeld ?_
    simp only [Act.put, List.setIfInBounds_toArray, List.set_cons_zero, List.set_cons_succ]
    refine hTake 12 (.int .i64 5) rfl (some 10) rfl (by kernel_rfl) (by kernel_rfl) (by kernel_rfl) (fun _ _ _ h => h) rfl (fun _ _ => rfl) hHeld ?_
    simp only [Act.put, List.setIfInBounds_toArray, List.set_cons_zero, List.set_cons_succ]
    refine wpAnyH_done (by kernel_rfl) ?_ _
    have hbr := below_ext (show Below w9.heap.size w9 w7 from below_ext (below_drewN (Below.refl w9.heap.size w9) 1) hb7) hb8
    replace B1 := Lib.hid (B1.out.below hbr)
    replace HB := Lib.hid (below_ext HB.out hbr)
    clear hbr hHeld hb7 hg7 hat7 ho7 hb7k hb8
    go_wp2_with (first
      | (go_skip)
      | (have _t := tk4; go_at_call 54; refine (P4.out _ _ _ (B1.out.front)).mono ?_; rintro e w9 ⟨⟨A9, c9, rfl⟩, hb⟩; replace HB := Lib.hid (below_ext HB.out hb); clear hb _t tk4)
        | (go_at_call 53; refine (PL.out _).mono ?_; rintro e w9 ⟨rfl, hb⟩; replace HB := Lib.hid (below_ext HB.out hb); clear hb))
    go_ret
    exact ⟨rfl, HB.out⟩
theorem back_row (A : Option Addr) (cap : Nat) (l : List Ce) {w : World} (HA : Cls w A l ∧ ∀ c ∈ l, Wf8 c.b) (y : l.length * 80 ≤ 140737488351232) (M : List Int) (hM : M.length = 64) (hw : ∀ x ∈ M, (Lit.int .u8 x).wf = true) :
    Calls Try.prog 9 #[.slice A l.length cap, .agg (M.map fun x => Value.int .u8 x).toArray] w fun e w' => e = .returned (.bool true) ∧ Below w.heap.size w w' := by
  show Calls Try.prog 9 #[.slice A l.length cap, blk M] w fun e w' => e = .returned (.bool true) ∧ Below w.heap.size w w'
  have h64 := HA.1.1
  by_cases hk : errC l = 0
  · obtain ⟨h1, h2, hm⟩ := errC_ok hk
    have hd2 : hdN l.length ≤ 2 := by rw [hdN]; omega
    have hlen := secL_length l
    have h8 := secL_wf hm HA.2
    have h6 := secL_64 h64
    obtain ⟨q1, q2⟩ := get_put hk h64
    have e1 : putS l = secL l := if_pos hk
    have e2 : getS (secL l) (l.length : Int) = l := by rw [getS, if_pos q1, Int.toNat_natCast, q2]
    have hsz := sizeN_nat h1 h2
    have hb : -9223372036854775808 ≤ (l.length : Int) ∧ (l.length : Int) ≤ 9223372036854775807 := ⟨by omega, by omega⟩
    obtain ⟨N, hN⟩ : ∃ N, hdN l.length + l.length = N + 1 := ⟨hdN l.length + l.length - 1, by omega⟩
    have hLN : (secL l).length = N + 1 := by rw [hlen, hN]
    refine back_ok A cap l (secL l) N M (Lib.hid hM) (Lib.hid hLN) (Lib.hid h6) (by omega) (Lib.hid fun A c w hx => ?_) (Lib.hid fun A c w hx => ?_) (Lib.hid fun A c w hx => ?_) (Lib.hid fun A c w hx => ?_) (Lib.hid fun A c w hx => ?_) (Lib.hid fun w => ?_) (Lib.hid fun A B c d w hx hy => cells_true _ A B c d w hx hy) (Lib.hid lives_any) w (Lib.hid HA.1)
    · refine (Put_x A c l w (Lib.hid hx)).mono ?_
      rintro e w' ⟨⟨A1, c1, rfl, hc, h⟩, hb⟩
      rw [e1] at h hc ⊢
      rw [hLN] at hc ⊢
      rw [hk]
      exact ⟨⟨A1, c1, rfl, hc, h⟩, hb⟩
    · have h := Get_x A c (secL l) h8 (l.length : Int) hb w hx
      rw [hLN] at h
      refine h.mono ?_
      rintro e w' ⟨⟨A1, c1, rfl, h⟩, hb⟩
      rw [e2] at h ⊢
      rw [q1]
      exact ⟨⟨A1, c1, rfl, h⟩, hb⟩
    · have h9 : ∀ b ∈ secL l ++ [M], Wf8 b := fun b hb => by
        rcases List.mem_append.1 hb with h | h
        · exact h8 b h
        · obtain rfl := List.mem_singleton.1 h; exact hw
      have hl2 : (secL l ++ [M]).length = N + 1 + 1 := by rw [List.length_append, hLN]; rfl
      have h := Get_x A c (secL l ++ [M]) h9 (l.length : Int) hb w hx
      have e5 : errG (secL l ++ [M]) (l.length : Int) = 5 := errG_long h1 h2 (by rw [hl2]; omega)
      rw [hl2] at h
      refine h.mono ?_
      rintro e w' ⟨⟨A1, c1, rfl, h⟩, hb⟩
      have e6 : getS (secL l ++ [M]) (l.length : Int) = [] := if_neg (by rw [e5]; decide)
      rw [e6, e5]
      exact ⟨⟨A1, c1, rfl⟩, hb⟩
    · have h9 : ∀ b ∈ (secL l).dropLast, Wf8 b := fun b hb => h8 b (by rw [List.dropLast_eq_take] at hb; exact List.mem_of_mem_take hb)
      have hl2 : (secL l).dropLast.length = N := by rw [List.length_dropLast, hLN]; rfl
      have h := Get_x A c (secL l).dropLast h9 (l.length : Int) hb w hx
      have e5 : errG (secL l).dropLast (l.length : Int) = 4 := errG_short h1 h2 (by rw [hl2]; omega)
      rw [hl2] at h
      refine h.mono ?_
      rintro e w' ⟨⟨A1, c1, rfl, h⟩, hb⟩
      have e6 : getS (secL l).dropLast (l.length : Int) = [] := if_neg (by rw [e5]; decide)
      rw [e6, e5]
      exact ⟨⟨A1, c1, rfl⟩, hb⟩
    · have h := CopyBlocks_any A c (secL l) (by rw [hLN]; omega) w (Lib.hid hx)
      rw [hLN] at h
      refine h.mono ?_
      rintro e w' ⟨⟨A1, c1, rfl, h⟩, hb⟩
      have h2 := h.2
      rw [hLN] at h2
      exact ⟨⟨A1, c1, rfl, h2⟩, hb⟩
    · have h := T.Size_any (l.length : Int) hb w
      rw [hsz, hN] at h
      exact h
  · refine back_no A cap l M (Lib.hid hM) (errC l) (by simpa using hk) (Lib.hid fun A c w hx => ?_) (Lib.hid lives_any) w (Lib.hid HA.1)
    refine (Put_x A c l w (Lib.hid hx)).mono ?_
    rintro e w' ⟨⟨A1, c1, rfl, -, h⟩, hb⟩
    have e1 : putS l = [] := if_neg hk
    rw [e1]
    exact ⟨⟨A1, c1, rfl⟩, hb⟩
end Go.Proofs.Ytdchcggllcgokaa.Y
