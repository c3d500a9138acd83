/- The program's insertion of a block: the list with the block ahead of the first block that does not start below it. Conditions: none. -/
import Derived.Test.YtobboonnfocalaaPB1x13
import Derived.Test.YtobboonnfocalaaSlBlk
import Derived.Test.YtobboonnfocalaaCloneBlk
import Derived.Test.YtobboonnfocalaaInsBlk
set_option linter.unusedVariables false
set_option linter.unusedSimpArgs false
namespace Go.Proofs.Ytobboonnfocalaa.PB1
open Go.RowKit Go.Proofs.YtobboonnfocalaaW.PrintWords Go.Proofs.YtobboonnfocalaaW.PrintLast Go.Proofs.YtobboonnfocalaaW.PrintMore Go.Proofs.Ytobboonnfocalaa.Sl

/-- The block starts below the word. -/
def below (t : Int) (b : S37) : Bool := decide (b.f0 < t)
def posOf (t : Int) (l : List S37) : Nat := (l.takeWhile (below t)).length
theorem posOf_at (t : Int) : ∀ (l : List S37) (k : Nat), (∀ j (hj : j < l.length), j < k → below t l[j] = true) → (k = l.length ∨ ∃ h : k < l.length, below t l[k] = false) → posOf t l = k
  | [], k, _, h => by
    rcases h with h | ⟨h, _⟩
    · rw [h]; rfl
    · simp at h
  | x :: r, 0, _, h => by
    rcases h with h | ⟨_, h⟩
    · simp at h
    · unfold posOf
      rw [List.takeWhile_cons_of_neg (by simpa using h)]
      rfl
  | x :: r, k + 1, h1, h => by
    have h0 := h1 0 (by simp) (by omega)
    unfold posOf
    rw [List.takeWhile_cons_of_pos (by simpa using h0), List.length_cons]
    have := posOf_at t r k (fun j hj hk => h1 (j + 1) (by simp; omega) (by omega)) (by
      rcases h with h | ⟨h2, h3⟩
      · exact .inl (by simpa using h)
      · exact .inr ⟨by simpa using h2, by simpa using h3⟩)
    unfold posOf at this
    omega
theorem posOf_le (t : Int) (l : List S37) : posOf t l ≤ l.length := by
  unfold posOf
  exact (List.takeWhile_sublist _).length_le
/-- The list with the block. -/
def ins (l : List S37) (b : S37) : List S37 := l.take (posOf b.f0 l) ++ b :: l.drop (posOf b.f0 l)

/-! ### impl_LiveAdd: function 13 -/
def impl_LiveAdd.f (k : Nat) (l0 : List S37) (a1 : Int) (a2_0 : Int) (a2_1 : Int) : Option (List S37 × Bool) :=
  if l0.length ≤ 1100000 then (impl_areLive.f k l0 a1).bind fun t => (if t = true then ((impl_areLive.f k (ins l0 ⟨a2_0, a2_1⟩) a1).bind fun u => (if u = true then some (ins l0 ⟨a2_0, a2_1⟩, true) else some ([], false))) else some ([], false)) else none
theorem impl_LiveAdd.mono : ∀ a0 a1 a2 a3 k, LeO (impl_LiveAdd.f k a0 a1 a2 a3) (impl_LiveAdd.f (k + 1) a0 a1 a2 a3) := by
  intro a0 a1 a2 a3 k
  unfold impl_LiveAdd.f
  exact LeO.ite (LeO.bind (impl_areLive.mono _ _ _) (fun _ => LeO.ite (LeO.bind (impl_areLive.mono _ _ _) (fun _ => LeO.refl _)) (LeO.refl _))) (LeO.refl _)
set_option maxHeartbeats 4000000 in
set_option maxRecDepth 100000 in
theorem impl_LiveAdd.calls (k : Nat) (A0 : Option Addr) (c0 : Nat) (l0 : List S37) (a1 : Int) (a2_0 : Int) (a2_1 : Int) (r1 : List S37) (r2 : Bool) (w : World) (hr0 : Kd.C k37 w A0 l0.length l0) (hc0 : l0.length ≤ c0) (h : impl_LiveAdd.f k l0 a1 a2_0 a2_1 = some (r1, r2)) :
    Calls Try.prog 13 #[.slice A0 l0.length c0, .int .i64 a1, .agg #[.int .i64 a2_0, .int .i64 a2_1]] w fun e w' => ∃ v0_ : Value, e = .returned (.tuple #[v0_, .bool r2]) ∧ Kd.R k37 37 w' w.heap.size (fun _ => True) v0_ r1 ∧ Below w.heap.size w w' := by
  unfold impl_LiveAdd.f at h
  by_cases hlen : l0.length ≤ 1100000
  · rw [if_pos hlen] at h
    obtain ⟨t, ht, h⟩ := Option.bind_eq_some_iff.mp h
    have C2 : ∀ W, Below w.heap.size w W → Calls Try.prog 38 #[.slice A0 l0.length c0, .int .i64 a1] W fun e w' => e = .returned (.bool t) ∧ Below W.heap.size W w' :=
      fun W hW => impl_areLive.calls k A0 c0 l0 a1 t W (Kd.C_below hr0 hW) hc0 ht
    have hu := Try.underlying37
    have hB1 : Below w.heap.size w (w.alloc (.cells #[.int .i64 a2_0, .int .i64 a2_1] 37)) := (Below.refl _ _).alloc (Nat.le_refl _) _
    have hbox : (w.alloc (.cells #[.int .i64 a2_0, .int .i64 a2_1] 37)).heap[w.heap.size]? = some (.cells #[.int .i64 a2_0, .int .i64 a2_1] 37 (0, 0)) := blk_new _ _
    by_cases c1 : t = true
    · rw [if_pos c1] at h
      subst c1
      obtain ⟨u, hu2, h⟩ := Option.bind_eq_some_iff.mp h
      generalize hins : ins l0 ⟨a2_0, a2_1⟩ = out at hu2 h
      have hol : out.length ≤ 2000000 := by rw [← hins]; unfold ins; simp; omega
      have C3 : ∀ W, Below w.heap.size w W → Calls Try.prog 40 #[.slice A0 l0.length c0] W fun e w' => ∃ v, e = .returned v ∧ Kd.R k37 37 w' W.heap.size (fun _ => True) v l0 ∧ Below W.heap.size W w' :=
        fun W hW => Clone_blk A0 c0 l0 W (Kd.C_below hr0 hW) (by omega)
      have C4 : ∀ (W : World) B v vb T, Kd.R k37 37 W B (fun _ => True) v l0 → B ≤ W.heap.size → W.heap[vb]? = some (.cells #[.int .i64 a2_0, .int .i64 a2_1] T (0, 0)) → v.ownBlock ≠ some vb → Calls Try.prog 39 #[v, .int .i64 (posOf a2_0 l0 : Int), .slice (some ⟨vb, 0, none⟩) 1 1] W fun e w' => ∃ v', e = .returned v' ∧ Kd.R k37 37 w' B (fun _ => True) v' out ∧ Below B W w' := by
        intro W B v vb T hv hb hvb hne
        rw [← List.take_append_drop (posOf a2_0 l0) l0] at hv
        have := Insert_blk W B v (l0.take (posOf a2_0 l0)) (l0.drop (posOf a2_0 l0)) ⟨a2_0, a2_1⟩ vb T hv (by rw [List.take_append_drop]; omega) hb hvb hne
        rw [List.length_take, Nat.min_eq_left (posOf_le _ _)] at this
        rw [← hins]
        exact this
      have C5 : ∀ W v, (∃ B ok, Kd.R k37 37 W B ok v out) → Calls Try.prog 38 #[v, .int .i64 a1] W fun e w' => e = .returned (.bool u) ∧ Below W.heap.size W w' := by
        rintro W v ⟨B, ok, hv⟩
        obtain ⟨A, c, rfl, hle, hC⟩ := Kd.R_reads hv
        exact impl_areLive.calls k A c out a1 u W hC hle hu2
      have HR := Aside0.mk hr0
      have mixed : Try.prog.follows .mixedOrders = true := by kernel_rfl
      clear hr0 ht hu2
      go_enter Try.func13, Try.ntmps13
      go_wp2_with (first | (go_at_call 38; refine (C2 _ hB1).mono ?_; rintro e w1 ⟨rfl, hb1⟩; have hB2 := below_step hB1 hb1; have hbx := blk_below hbox hb1))
      go_loopg [8] l0.length (fun gg s8 wr => ∃ kk : Nat, kk ≤ l0.length ∧ l0.length - kk ≤ gg ∧ s8 = .int .i64 kk ∧ Aside0 (Below w.heap.size w wr) ∧ Aside0 (wr.heap[w.heap.size]? = some (.cells #[.int .i64 a2_0, .int .i64 a2_1] 37 (0, 0))) ∧ Aside0 (∀ j (hj : j < l0.length), j < kk → below a2_0 (l0[j]'hj) = true))
      case atStart => exact ⟨0, Nat.zero_le _, by omega, rfl, ⟨hB2⟩, ⟨hbx⟩, ⟨fun j hj h => absurd h (Nat.not_lt_zero _)⟩⟩
      case round =>
        clear hbx hB2 hb1
        obtain ⟨kk, hkk, hg, rfl, BW, BX, HA⟩ := hrel
        have hy0 : wr.cell? ⟨w.heap.size, 0, none⟩ = some (.int .i64 a2_0) := cell_of_blk BX.out 0
        have hy1 : wr.cell? ⟨w.heap.size, 1, none⟩ = some (.int .i64 a2_1) := cell_of_blk BX.out 1
        by_cases hlt : kk < l0.length
        · have hltz : (kk : Int) < (l0.length : Int) := by omega
          obtain ⟨ad, rfl, hx, hx2⟩ := at_T37 HR.out (kk : Int) (by omega) hltz
          replace hx := pw_cell_below BW.out hx
          rw [show rd_T37 l0 (kk : Int) = l0[kk] by simp [rd_T37, List.getD_eq_getElem?_getD, hlt]] at hx
          simp only [Int.toNat_natCast] at hx
          by_cases hp : (l0[kk]).f0 < a2_0
          · have HP := Aside0.mk (show below a2_0 l0[kk] = true from decide_eq_true hp)
            generalize (l0[kk]).f0 = q at hx hp
            go_wp2
            go_quiet (fail)
            go_wp2
            go_roundg (l0.length - (kk + 1))
            case measure => omega
            case rel =>
              refine ⟨kk + 1, by omega, by omega, by go_num, ⟨pw_below_drewN BW.out _⟩, ⟨blk_drewN BX.out _⟩, ⟨fun j hj h => ?_⟩⟩
              by_cases e : j = kk
              · subst e
                exact HP.out
              · exact HA.out j hj (by omega)
          · have HP := Aside0.mk (show below a2_0 l0[kk] = false from decide_eq_false hp)
            generalize (l0[kk]).f0 = q at hx hp
            have hp' : decide (q < a2_0) = false := decide_eq_false hp
            go_wp2
            go_quiet (fail)
            go_wp2
            have HE := posOf_at a2_0 l0 kk (fun j hj h => HA.out j hj h) (.inr ⟨hlt, HP.out⟩)
            rw [HE] at C4
            have hBd := below_drew (pw_below_drewN BW.out nq)
            have BXd := blk_drew (blk_drewN BX.out nq)
            have y0 := cell_of_blk BXd 0
            have y1 := cell_of_blk BXd 1
            go_region_law_o (first | (go_simp; go_at_call 40; refine (C3 _ (by first | exact hBd | exact hBd.alloc hBd.size _)).mono ?_; rintro e W3 ⟨v3, rfl, hv3, hb3⟩; have hq3 : Below (wr.drewN nq).drew.heap.size (wr.drewN nq).drew W3 := (by first | exact hb3 | exact below_step ((Below.refl _ _).alloc (Nat.le_refl _) _) hb3); have z0 := cell_of_blk (blk_below BXd hq3) 0; have z1 := cell_of_blk (blk_below BXd hq3) 1; have hB5 := below_step hBd hq3) | (go_simp; go_at_call 39; refine (C4 _ _ _ _ 37 (by first | exact hv3 | exact Kd.R_alloc hv3 _) (by first | exact hb3.size | exact Nat.le_trans hb3.size (by simp [World.size_alloc])) (by first | exact blk_new _ _ | exact blk_below (blk_new (wr.drewN (nq + 1)) _) hb3) (by intro he; first | exact absurd (Kd.R_lt hv3 _ he) (Nat.lt_irrefl _) | exact absurd (Kd.R_base hv3 _ he) (by rw [World.size_alloc]; exact Nat.not_succ_le_self _))).mono ?_; rintro e W4 ⟨v4, rfl, hv4, hb4⟩; have hR6 := Kd.R_lower hv4 (show w.heap.size ≤ _ by first | exact hBd.size | exact Nat.le_trans hBd.size (by simp [World.size_alloc])); have hB6 : Below w.heap.size w W4 := (by first | exact below_from (hB5.alloc hB5.size _) hBd.size hb4 | exact below_from hB5 (Nat.le_trans hBd.size (by simp [World.size_alloc])) hb4)))
            all_goals (cases u)
            all_goals (simp only [Bool.false_eq_true, if_true, if_false] at h; cases h)
            all_goals (go_wp2_with (first | (go_at_call 38; refine (C5 _ _ ⟨_, _, hv4⟩).mono ?_; rintro e W5 ⟨rfl, hb5⟩)))
            all_goals (go_ret2; first | exact ⟨_, rfl, Kd.R_below hR6 hb5, below_step hB6 hb5⟩ | exact ⟨_, rfl, Kd.R_nil _ _ _ _ _, below_step hB6 hb5⟩)
        · have hc : decide ((kk : Int) < (l0.length : Int)) = false := decide_eq_false (by omega)
          go_wp2
          go_quiet (fail)
          go_wp2
          have HE := posOf_at a2_0 l0 kk (fun j hj h => HA.out j hj h) (.inl (by omega))
          rw [HE] at C4
          have hBd := below_drew (pw_below_drewN BW.out nq)
          have BXd := blk_drew (blk_drewN BX.out nq)
          have y0 := cell_of_blk BXd 0
          have y1 := cell_of_blk BXd 1
          go_region_law_o (first | (go_simp; go_at_call 40; refine (C3 _ (by first | exact hBd | exact hBd.alloc hBd.size _)).mono ?_; rintro e W3 ⟨v3, rfl, hv3, hb3⟩; have hq3 : Below (wr.drewN nq).drew.heap.size (wr.drewN nq).drew W3 := (by first | exact hb3 | exact below_step ((Below.refl _ _).alloc (Nat.le_refl _) _) hb3); have z0 := cell_of_blk (blk_below BXd hq3) 0; have z1 := cell_of_blk (blk_below BXd hq3) 1; have hB5 := below_step hBd hq3) | (go_simp; go_at_call 39; refine (C4 _ _ _ _ 37 (by first | exact hv3 | exact Kd.R_alloc hv3 _) (by first | exact hb3.size | exact Nat.le_trans hb3.size (by simp [World.size_alloc])) (by first | exact blk_new _ _ | exact blk_below (blk_new (wr.drewN (nq + 1)) _) hb3) (by intro he; first | exact absurd (Kd.R_lt hv3 _ he) (Nat.lt_irrefl _) | exact absurd (Kd.R_base hv3 _ he) (by rw [World.size_alloc]; exact Nat.not_succ_le_self _))).mono ?_; rintro e W4 ⟨v4, rfl, hv4, hb4⟩; have hR6 := Kd.R_lower hv4 (show w.heap.size ≤ _ by first | exact hBd.size | exact Nat.le_trans hBd.size (by simp [World.size_alloc])); have hB6 : Below w.heap.size w W4 := (by first | exact below_from (hB5.alloc hB5.size _) hBd.size hb4 | exact below_from hB5 (Nat.le_trans hBd.size (by simp [World.size_alloc])) hb4)))
          all_goals (cases u)
          all_goals (simp only [Bool.false_eq_true, if_true, if_false] at h; cases h)
          all_goals (go_wp2_with (first | (go_at_call 38; refine (C5 _ _ ⟨_, _, hv4⟩).mono ?_; rintro e W5 ⟨rfl, hb5⟩)))
          all_goals (go_ret2; first | exact ⟨_, rfl, Kd.R_below hR6 hb5, below_step hB6 hb5⟩ | exact ⟨_, rfl, Kd.R_nil _ _ _ _ _, below_step hB6 hb5⟩)
    · rw [if_neg c1] at h
      cases h
      replace c1 := Bool.eq_false_iff.mpr c1
      subst c1
      clear hr0 ht
      go_enter Try.func13, Try.ntmps13
      go_wp2_with (first | (go_at_call 38; refine (C2 _ hB1).mono ?_; rintro e w1 ⟨rfl, hb1⟩; have hB2 := below_step hB1 hb1))
      go_ret2
      exact ⟨_, rfl, Kd.R_nil _ _ _ _ _, hB2⟩
  · rw [if_neg hlen] at h
    cases h
end Go.Proofs.Ytobboonnfocalaa.PB1
