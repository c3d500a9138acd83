/- What a fact does to the live blocks, by the program. Conditions: none. -/
import Derived.Test.YtmnjppfebaeoiaaPB1x23
import Derived.Test.YtmnjppfebaeoiaaPB1x5
import Derived.Test.YtmnjppfebaeoiaaSlBlk
import Derived.Test.YtmnjppfebaeoiaaCloneBlk
import Derived.Test.YtmnjppfebaeoiaaCut
import Derived.Test.YtmnjppfebaeoiaaAdd
set_option linter.unusedVariables false
set_option linter.unusedSimpArgs false
namespace Go.Proofs.Ytmnjppfebaeoiaa.PB1
open Go.RowKit Go.Proofs.YtmnjppfebaeoiaaW.PrintWords Go.Proofs.YtmnjppfebaeoiaaW.PrintLast Go.Proofs.YtmnjppfebaeoiaaW.PrintMore Go.Proofs.Ytmnjppfebaeoiaa.Sl

theorem ContainsFunc_blk (c : FuncId) (caps : Array Value) (p : S43 → Bool) (eg : ∀ args w, (callFunc c args).run Try.prog w = .ok (.enter c args) w) (A : Option Addr) (cap : Nat) (l : List S43) (w : World)
    (hr : Kd.C k43 w A l.length l) (hc : l.length ≤ cap) (hp : Pred Try.prog c caps encB p l w) :
    Calls Try.prog 150 #[.slice A l.length cap, .func (.func c) #[] caps] w fun e w' => e = .returned (.bool (l.any p)) ∧ Below w.heap.size w w' := by
  rw [← idxOf_any p l]
  have HI := IndexFunc_blk c caps p eg A cap l w hr hc hp
  generalize idxOf p l = r at HI ⊢
  clear hr hp hc
  go_enter Try.func150, Try.ntmps150
  go_wp2_with (go_at_call 77; refine HI.mono ?_; rintro e w' ⟨rfl, hb'⟩)
  go_ret
  exact ⟨rfl, hb'⟩
theorem fd1 (b : S43) (t x0 x1 x2 x4 : Int) (g T : Nat) (w : World) (h : w.heap[g]? = some (.cells #[.int .i64 x0, .int .i64 x1, .int .i64 x2, .int .i64 t, .int .i64 x4] T (0, 0))) : Calls Try.prog 151 #[encB b, .pointer (some ⟨g, 0, none⟩)] w fun e w' => e = .returned (.bool (starts t b)) ∧ Below w.heap.size w w' := by
  have hu := Try.underlying43
  have hu2 := Try.underlying95
  have hB : Below w.heap.size w (w.alloc (.cells #[.int .i64 b.f0, .int .i64 b.f1] 43)) := (Below.refl _ _).alloc (Nat.le_refl _) _
  have h1 : w.cell? ⟨g, 3, none⟩ = some (.int .i64 t) := cell_of_blk h 3
  have h2 := pw_cell_below hB h1
  clear h
  unfold encB starts
  go_enter Try.func151, Try.ntmps151
  go_wp2
  go_ret
  exact ⟨rfl, hB⟩

/-! ### impl_factDo: function 128 -/
def impl_factDo.f (k : Nat) (l0 : List S43) (a1_0 a1_1 a1_2 a1_3 a1_4 : Int) : Option (List S43 × Bool) :=
  if l0.length ≤ 1100000 then (impl_areLive.f k l0 256).bind fun t => (if t = true then ((impl_isFact.f k a1_0 a1_1 a1_2 a1_3 a1_4).bind fun u => (if u = true then (if a1_0 = 1 then impl_LiveAdd.f k l0 256 a1_3 a1_4 else (if a1_0 = 2 then ((impl_LiveCut.f k l0 256 a1_3).bind fun q => (if q.2.2 = true then (if q.2.1 = a1_4 then some (q.1, true) else some ([], false)) else some ([], false))) else (if a1_0 = 4 then (if (l0.any (starts a1_3)) = true then some ([], false) else some (l0, true)) else some (l0, true)))) else some ([], false))) else some ([], false)) else none
theorem impl_factDo.mono : ∀ a0 a1 a2 a3 a4 a5 k, LeO (impl_factDo.f k a0 a1 a2 a3 a4 a5) (impl_factDo.f (k + 1) a0 a1 a2 a3 a4 a5) := by
  intro a0 a1 a2 a3 a4 a5 k
  unfold impl_factDo.f
  exact LeO.ite (LeO.bind (impl_areLive.mono _ _ _) (fun _ => LeO.ite (LeO.bind (impl_isFact.mono _ _ _ _ _ _) (fun _ => LeO.ite (LeO.ite (impl_LiveAdd.mono _ _ _ _ _) (LeO.ite (LeO.bind (impl_LiveCut.mono _ _ _ _) (fun _ => LeO.refl _)) (LeO.refl _))) (LeO.refl _))) (LeO.refl _))) (LeO.refl _)
set_option maxHeartbeats 4000000 in
set_option maxRecDepth 100000 in
theorem impl_factDo.calls (k : Nat) (A0 : Option Addr) (c0 : Nat) (l0 : List S43) (a1_0 a1_1 a1_2 a1_3 a1_4 : Int) (r1 : List S43) (r2 : Bool) (w : World) (hr0 : Kd.C k43 w A0 l0.length l0) (hc0 : l0.length ≤ c0) (h : impl_factDo.f k l0 a1_0 a1_1 a1_2 a1_3 a1_4 = some (r1, r2)) :
    Calls Try.prog 128 #[.slice A0 l0.length c0, .agg #[.int .i64 a1_0, .int .i64 a1_1, .int .i64 a1_2, .int .i64 a1_3, .int .i64 a1_4]] w fun e w' => ∃ v0_ : Value, e = .returned (.tuple #[v0_, .bool r2]) ∧ Kd.R k43 43 w' w.heap.size (fun _ => True) v0_ r1 ∧ Below w.heap.size w w' := by
  unfold impl_factDo.f at h
  by_cases hlen : l0.length ≤ 1100000
  · rw [if_pos hlen] at h
    have H := Option.bind_eq_some_iff.mp h
    clear h
    obtain ⟨t, ht, h⟩ := H
    have hu := Try.underlying43
    have hu2 := Try.underlying95
    have hB1 : Below w.heap.size w (w.alloc (.cells #[.int .i64 a1_0, .int .i64 a1_1, .int .i64 a1_2, .int .i64 a1_3, .int .i64 a1_4] 95)) := (Below.refl _ _).alloc (Nat.le_refl _) _
    have hbx : (w.alloc (.cells #[.int .i64 a1_0, .int .i64 a1_1, .int .i64 a1_2, .int .i64 a1_3, .int .i64 a1_4] 95)).heap[w.heap.size]? = some (.cells #[.int .i64 a1_0, .int .i64 a1_1, .int .i64 a1_2, .int .i64 a1_3, .int .i64 a1_4] 95 (0, 0)) := blk_new _ _
    have C1 : ∀ W, Below w.heap.size w W → Calls Try.prog 79 #[.slice A0 l0.length c0, .int .i64 256] W fun e w' => e = .returned (.bool t) ∧ Below W.heap.size W w' :=
      fun W hW => impl_areLive.calls k A0 c0 l0 256 t W (Kd.C_below hr0 hW) hc0 ht
    have HT := Aside0.mk ht
    clear ht
    by_cases c1 : t = true
    · rw [if_pos c1] at h
      subst c1
      have H := Option.bind_eq_some_iff.mp h
      clear h
      obtain ⟨u, ht, h⟩ := H
      have C2 : ∀ W, Calls Try.prog 149 #[.agg #[.int .i64 a1_0, .int .i64 a1_1, .int .i64 a1_2, .int .i64 a1_3, .int .i64 a1_4]] W fun e w' => e = .returned (.bool u) ∧ Below W.heap.size W w' :=
        fun W => impl_isFact.calls k _ _ _ _ _ u W ht
      clear ht
      by_cases c2 : u = true
      · rw [if_pos c2] at h
        subst c2
        have C3 : ∀ W, Below w.heap.size w W → Calls Try.prog 81 #[.slice A0 l0.length c0] W fun e w' => ∃ v, e = .returned v ∧ Kd.R k43 43 w' W.heap.size (fun _ => True) v l0 ∧ Below W.heap.size W w' :=
          fun W hW => Clone_blk A0 c0 l0 W (Kd.C_below hr0 hW) (by omega)
        by_cases c3 : a1_0 = 1
        · rw [if_pos c3] at h
          subst c3
          have C4 : ∀ W, Below w.heap.size w W → Calls Try.prog 28 #[.slice A0 l0.length c0, .int .i64 256, .agg #[.int .i64 a1_3, .int .i64 a1_4]] W fun e w' => ∃ v0_ : Value, e = .returned (.tuple #[v0_, .bool r2]) ∧ Kd.R k43 43 w' W.heap.size (fun _ => True) v0_ r1 ∧ Below W.heap.size W w' :=
            fun W hW => impl_LiveAdd.calls k A0 c0 l0 256 a1_3 a1_4 r1 r2 W (Kd.C_below hr0 hW) hc0 h
          clear hr0 h C3
          go_enter Try.func128, Try.ntmps128
          go_wp2_with (first | (go_at_call 79; refine (C1 _ hB1).mono ?_; rintro e w3 ⟨rfl, hb3⟩; have hB3 := below_step hB1 hb3; have bx3 := blk_below hbx hb3; have y0 := cell_of_blk bx3 0; have y1 := cell_of_blk bx3 1; have y2 := cell_of_blk bx3 2; have y3 := cell_of_blk bx3 3; have y4 := cell_of_blk bx3 4) | (go_at_call 149; refine (C2 _).mono ?_; rintro e w5 ⟨rfl, hb5⟩; have hB5 := below_step hB3 hb5; have bx5 := blk_below bx3 hb5; have z0 := cell_of_blk bx5 0; have z1 := cell_of_blk bx5 1; have z2 := cell_of_blk bx5 2; have z3 := cell_of_blk bx5 3; have z4 := cell_of_blk bx5 4) | (go_at_call 28; refine (C4 _ hB5).mono ?_; rintro e w6 ⟨v4, rfl, hv4, hb6⟩; have hB6 := below_step hB5 hb6) | (go_at_call 22; refine (C5 _ hB5).mono ?_; rintro e w6 ⟨v4, rfl, hv4, hb6⟩; have hB6 := below_step hB5 hb6; have bx6 := blk_below bx5 hb6; have x0 := cell_of_blk bx6 0; have x1 := cell_of_blk bx6 1; have x2 := cell_of_blk bx6 2; have x3 := cell_of_blk bx6 3; have x4 := cell_of_blk bx6 4) | (go_at_call 150; refine (C6 _ hB5 bx5).mono ?_; rintro e w6 ⟨rfl, hb6⟩; have hB6 := below_step hB5 hb6) | (go_at_call 81; refine (C3 _ hB6).mono ?_; rintro e w7 ⟨v7, rfl, hv7, hb7⟩; have hB7 := below_step hB6 hb7))
          go_ret2
          exact ⟨_, rfl, Kd.R_lower hv4 hB5.size, hB6⟩
        · rw [if_neg c3] at h
          by_cases c4 : a1_0 = 2
          · rw [if_pos c4] at h
            subst c4
            have H := Option.bind_eq_some_iff.mp h
            clear h
            obtain ⟨⟨q1, q2, q3⟩, hq, h⟩ := H
            have C5 : ∀ W, Below w.heap.size w W → Calls Try.prog 22 #[.slice A0 l0.length c0, .int .i64 256, .int .i64 a1_3] W fun e w' => ∃ v0_ : Value, e = .returned (.tuple #[v0_, .int .i64 q2, .bool q3]) ∧ Kd.R k43 43 w' W.heap.size (fun _ => True) v0_ q1 ∧ Below W.heap.size W w' :=
              fun W hW => impl_LiveCut.calls k A0 c0 l0 256 a1_3 q1 q2 q3 W (Kd.C_below hr0 hW) hc0 hq
            clear hr0 hq C3
            dsimp only at h
            by_cases c5 : q3 = true
            · rw [if_pos c5] at h
              subst c5
              by_cases c6 : q2 = a1_4
              · rw [if_pos c6] at h
                cases h
                subst c6
                go_enter Try.func128, Try.ntmps128
                go_wp2_with (first | (go_at_call 79; refine (C1 _ hB1).mono ?_; rintro e w3 ⟨rfl, hb3⟩; have hB3 := below_step hB1 hb3; have bx3 := blk_below hbx hb3; have y0 := cell_of_blk bx3 0; have y1 := cell_of_blk bx3 1; have y2 := cell_of_blk bx3 2; have y3 := cell_of_blk bx3 3; have y4 := cell_of_blk bx3 4) | (go_at_call 149; refine (C2 _).mono ?_; rintro e w5 ⟨rfl, hb5⟩; have hB5 := below_step hB3 hb5; have bx5 := blk_below bx3 hb5; have z0 := cell_of_blk bx5 0; have z1 := cell_of_blk bx5 1; have z2 := cell_of_blk bx5 2; have z3 := cell_of_blk bx5 3; have z4 := cell_of_blk bx5 4) | (go_at_call 28; refine (C4 _ hB5).mono ?_; rintro e w6 ⟨v4, rfl, hv4, hb6⟩; have hB6 := below_step hB5 hb6) | (go_at_call 22; refine (C5 _ hB5).mono ?_; rintro e w6 ⟨v4, rfl, hv4, hb6⟩; have hB6 := below_step hB5 hb6; have bx6 := blk_below bx5 hb6; have x0 := cell_of_blk bx6 0; have x1 := cell_of_blk bx6 1; have x2 := cell_of_blk bx6 2; have x3 := cell_of_blk bx6 3; have x4 := cell_of_blk bx6 4) | (go_at_call 150; refine (C6 _ hB5 bx5).mono ?_; rintro e w6 ⟨rfl, hb6⟩; have hB6 := below_step hB5 hb6) | (go_at_call 81; refine (C3 _ hB6).mono ?_; rintro e w7 ⟨v7, rfl, hv7, hb7⟩; have hB7 := below_step hB6 hb7))
                go_ret2
                exact ⟨_, rfl, Kd.R_lower hv4 hB5.size, hB6⟩
              · rw [if_neg c6] at h
                cases h
                have c6b : (q2 == a1_4) = false := by simpa using c6
                go_enter Try.func128, Try.ntmps128
                go_wp2_with (first | (go_at_call 79; refine (C1 _ hB1).mono ?_; rintro e w3 ⟨rfl, hb3⟩; have hB3 := below_step hB1 hb3; have bx3 := blk_below hbx hb3; have y0 := cell_of_blk bx3 0; have y1 := cell_of_blk bx3 1; have y2 := cell_of_blk bx3 2; have y3 := cell_of_blk bx3 3; have y4 := cell_of_blk bx3 4) | (go_at_call 149; refine (C2 _).mono ?_; rintro e w5 ⟨rfl, hb5⟩; have hB5 := below_step hB3 hb5; have bx5 := blk_below bx3 hb5; have z0 := cell_of_blk bx5 0; have z1 := cell_of_blk bx5 1; have z2 := cell_of_blk bx5 2; have z3 := cell_of_blk bx5 3; have z4 := cell_of_blk bx5 4) | (go_at_call 28; refine (C4 _ hB5).mono ?_; rintro e w6 ⟨v4, rfl, hv4, hb6⟩; have hB6 := below_step hB5 hb6) | (go_at_call 22; refine (C5 _ hB5).mono ?_; rintro e w6 ⟨v4, rfl, hv4, hb6⟩; have hB6 := below_step hB5 hb6; have bx6 := blk_below bx5 hb6; have x0 := cell_of_blk bx6 0; have x1 := cell_of_blk bx6 1; have x2 := cell_of_blk bx6 2; have x3 := cell_of_blk bx6 3; have x4 := cell_of_blk bx6 4) | (go_at_call 150; refine (C6 _ hB5 bx5).mono ?_; rintro e w6 ⟨rfl, hb6⟩; have hB6 := below_step hB5 hb6) | (go_at_call 81; refine (C3 _ hB6).mono ?_; rintro e w7 ⟨v7, rfl, hv7, hb7⟩; have hB7 := below_step hB6 hb7))
                go_ret2
                exact ⟨_, rfl, Kd.R_nil _ _ _ _ _, hB6⟩
            · rw [if_neg c5] at h
              cases h
              replace c5 := Bool.eq_false_iff.mpr c5
              subst c5
              go_enter Try.func128, Try.ntmps128
              go_wp2_with (first | (go_at_call 79; refine (C1 _ hB1).mono ?_; rintro e w3 ⟨rfl, hb3⟩; have hB3 := below_step hB1 hb3; have bx3 := blk_below hbx hb3; have y0 := cell_of_blk bx3 0; have y1 := cell_of_blk bx3 1; have y2 := cell_of_blk bx3 2; have y3 := cell_of_blk bx3 3; have y4 := cell_of_blk bx3 4) | (go_at_call 149; refine (C2 _).mono ?_; rintro e w5 ⟨rfl, hb5⟩; have hB5 := below_step hB3 hb5; have bx5 := blk_below bx3 hb5; have z0 := cell_of_blk bx5 0; have z1 := cell_of_blk bx5 1; have z2 := cell_of_blk bx5 2; have z3 := cell_of_blk bx5 3; have z4 := cell_of_blk bx5 4) | (go_at_call 28; refine (C4 _ hB5).mono ?_; rintro e w6 ⟨v4, rfl, hv4, hb6⟩; have hB6 := below_step hB5 hb6) | (go_at_call 22; refine (C5 _ hB5).mono ?_; rintro e w6 ⟨v4, rfl, hv4, hb6⟩; have hB6 := below_step hB5 hb6; have bx6 := blk_below bx5 hb6; have x0 := cell_of_blk bx6 0; have x1 := cell_of_blk bx6 1; have x2 := cell_of_blk bx6 2; have x3 := cell_of_blk bx6 3; have x4 := cell_of_blk bx6 4) | (go_at_call 150; refine (C6 _ hB5 bx5).mono ?_; rintro e w6 ⟨rfl, hb6⟩; have hB6 := below_step hB5 hb6) | (go_at_call 81; refine (C3 _ hB6).mono ?_; rintro e w7 ⟨v7, rfl, hv7, hb7⟩; have hB7 := below_step hB6 hb7))
              go_ret2
              exact ⟨_, rfl, Kd.R_nil _ _ _ _ _, hB6⟩
          · rw [if_neg c4] at h
            have c3b : (a1_0 == 1) = false := by simpa using c3
            have c4b : (a1_0 == 2) = false := by simpa using c4
            by_cases c5 : a1_0 = 4
            · rw [if_pos c5] at h
              subst c5
              have e1 : ∀ args w, (callFunc 151 args).run Try.prog w = .ok (.enter 151 args) w := enters_of Try.func151 (by kernel_rfl) rfl
              have C6 : ∀ W, Below w.heap.size w W → W.heap[w.heap.size]? = some (.cells #[.int .i64 4, .int .i64 a1_1, .int .i64 a1_2, .int .i64 a1_3, .int .i64 a1_4] 95 (0, 0)) → Calls Try.prog 150 #[.slice A0 l0.length c0, .func (.func 151) #[] #[.pointer (some ⟨w.heap.size, 0, none⟩)]] W fun e w' => e = .returned (.bool (l0.any (starts a1_3))) ∧ Below W.heap.size W w' :=
                fun W hW hbW => ContainsFunc_blk _ #[.pointer (some ⟨w.heap.size, 0, none⟩)] _ e1 A0 c0 l0 W (Kd.C_below hr0 hW) hc0 (fun x _ W' hW' => fd1 x a1_3 _ _ _ _ _ _ W' (blk_below hbW hW'))
              generalize l0.any (starts a1_3) = q at C6 h
              clear hr0 e1
              by_cases c6 : q = true
              · rw [if_pos c6] at h
                subst c6
                cases h
                go_enter Try.func128, Try.ntmps128
                go_wp2_with (first | (go_at_call 79; refine (C1 _ hB1).mono ?_; rintro e w3 ⟨rfl, hb3⟩; have hB3 := below_step hB1 hb3; have bx3 := blk_below hbx hb3; have y0 := cell_of_blk bx3 0; have y1 := cell_of_blk bx3 1; have y2 := cell_of_blk bx3 2; have y3 := cell_of_blk bx3 3; have y4 := cell_of_blk bx3 4) | (go_at_call 149; refine (C2 _).mono ?_; rintro e w5 ⟨rfl, hb5⟩; have hB5 := below_step hB3 hb5; have bx5 := blk_below bx3 hb5; have z0 := cell_of_blk bx5 0; have z1 := cell_of_blk bx5 1; have z2 := cell_of_blk bx5 2; have z3 := cell_of_blk bx5 3; have z4 := cell_of_blk bx5 4) | (go_at_call 28; refine (C4 _ hB5).mono ?_; rintro e w6 ⟨v4, rfl, hv4, hb6⟩; have hB6 := below_step hB5 hb6) | (go_at_call 22; refine (C5 _ hB5).mono ?_; rintro e w6 ⟨v4, rfl, hv4, hb6⟩; have hB6 := below_step hB5 hb6; have bx6 := blk_below bx5 hb6; have x0 := cell_of_blk bx6 0; have x1 := cell_of_blk bx6 1; have x2 := cell_of_blk bx6 2; have x3 := cell_of_blk bx6 3; have x4 := cell_of_blk bx6 4) | (go_at_call 150; refine (C6 _ hB5 bx5).mono ?_; rintro e w6 ⟨rfl, hb6⟩; have hB6 := below_step hB5 hb6) | (go_at_call 81; refine (C3 _ hB6).mono ?_; rintro e w7 ⟨v7, rfl, hv7, hb7⟩; have hB7 := below_step hB6 hb7))
                go_ret2
                exact ⟨_, rfl, Kd.R_nil _ _ _ _ _, hB6⟩
              · rw [if_neg c6] at h
                cases h
                replace c6 := Bool.eq_false_iff.mpr c6
                subst c6
                go_enter Try.func128, Try.ntmps128
                go_wp2_with (first | (go_at_call 79; refine (C1 _ hB1).mono ?_; rintro e w3 ⟨rfl, hb3⟩; have hB3 := below_step hB1 hb3; have bx3 := blk_below hbx hb3; have y0 := cell_of_blk bx3 0; have y1 := cell_of_blk bx3 1; have y2 := cell_of_blk bx3 2; have y3 := cell_of_blk bx3 3; have y4 := cell_of_blk bx3 4) | (go_at_call 149; refine (C2 _).mono ?_; rintro e w5 ⟨rfl, hb5⟩; have hB5 := below_step hB3 hb5; have bx5 := blk_below bx3 hb5; have z0 := cell_of_blk bx5 0; have z1 := cell_of_blk bx5 1; have z2 := cell_of_blk bx5 2; have z3 := cell_of_blk bx5 3; have z4 := cell_of_blk bx5 4) | (go_at_call 28; refine (C4 _ hB5).mono ?_; rintro e w6 ⟨v4, rfl, hv4, hb6⟩; have hB6 := below_step hB5 hb6) | (go_at_call 22; refine (C5 _ hB5).mono ?_; rintro e w6 ⟨v4, rfl, hv4, hb6⟩; have hB6 := below_step hB5 hb6; have bx6 := blk_below bx5 hb6; have x0 := cell_of_blk bx6 0; have x1 := cell_of_blk bx6 1; have x2 := cell_of_blk bx6 2; have x3 := cell_of_blk bx6 3; have x4 := cell_of_blk bx6 4) | (go_at_call 150; refine (C6 _ hB5 bx5).mono ?_; rintro e w6 ⟨rfl, hb6⟩; have hB6 := below_step hB5 hb6) | (go_at_call 81; refine (C3 _ hB6).mono ?_; rintro e w7 ⟨v7, rfl, hv7, hb7⟩; have hB7 := below_step hB6 hb7))
                go_ret2
                exact ⟨_, rfl, Kd.R_lower hv7 hB6.size, hB7⟩
            · rw [if_neg c5] at h
              have c5b : (a1_0 == 4) = false := by simpa using c5
              cases h
              clear hr0
              go_enter Try.func128, Try.ntmps128
              go_wp2_with (first | (go_at_call 79; refine (C1 _ hB1).mono ?_; rintro e w3 ⟨rfl, hb3⟩; have hB3 := below_step hB1 hb3; have bx3 := blk_below hbx hb3; have y0 := cell_of_blk bx3 0; have y1 := cell_of_blk bx3 1; have y2 := cell_of_blk bx3 2; have y3 := cell_of_blk bx3 3; have y4 := cell_of_blk bx3 4) | (go_at_call 149; refine (C2 _).mono ?_; rintro e w5 ⟨rfl, hb5⟩; have hB5 := below_step hB3 hb5; have bx5 := blk_below bx3 hb5; have z0 := cell_of_blk bx5 0; have z1 := cell_of_blk bx5 1; have z2 := cell_of_blk bx5 2; have z3 := cell_of_blk bx5 3; have z4 := cell_of_blk bx5 4) | (go_at_call 28; refine (C4 _ hB5).mono ?_; rintro e w6 ⟨v4, rfl, hv4, hb6⟩; have hB6 := below_step hB5 hb6) | (go_at_call 22; refine (C5 _ hB5).mono ?_; rintro e w6 ⟨v4, rfl, hv4, hb6⟩; have hB6 := below_step hB5 hb6; have bx6 := blk_below bx5 hb6; have x0 := cell_of_blk bx6 0; have x1 := cell_of_blk bx6 1; have x2 := cell_of_blk bx6 2; have x3 := cell_of_blk bx6 3; have x4 := cell_of_blk bx6 4) | (go_at_call 150; refine (C6 _ hB5 bx5).mono ?_; rintro e w6 ⟨rfl, hb6⟩; have hB6 := below_step hB5 hb6) | (go_at_call 81; refine (C3 _ hB5).mono ?_; rintro e w7 ⟨v7, rfl, hv7, hb7⟩; have hB7 := below_step hB5 hb7))
              go_ret2
              exact ⟨_, rfl, Kd.R_lower hv7 hB5.size, hB7⟩
      · rw [if_neg c2] at h
        cases h
        replace c2 := Bool.eq_false_iff.mpr c2
        subst c2
        clear hr0
        go_enter Try.func128, Try.ntmps128
        go_wp2_with (first | (go_at_call 79; refine (C1 _ hB1).mono ?_; rintro e w3 ⟨rfl, hb3⟩; have hB3 := below_step hB1 hb3; have bx3 := blk_below hbx hb3; have y0 := cell_of_blk bx3 0; have y1 := cell_of_blk bx3 1; have y2 := cell_of_blk bx3 2; have y3 := cell_of_blk bx3 3; have y4 := cell_of_blk bx3 4) | (go_at_call 149; refine (C2 _).mono ?_; rintro e w5 ⟨rfl, hb5⟩; have hB5 := below_step hB3 hb5; have bx5 := blk_below bx3 hb5; have z0 := cell_of_blk bx5 0; have z1 := cell_of_blk bx5 1; have z2 := cell_of_blk bx5 2; have z3 := cell_of_blk bx5 3; have z4 := cell_of_blk bx5 4) | (go_at_call 28; refine (C4 _ hB5).mono ?_; rintro e w6 ⟨v4, rfl, hv4, hb6⟩; have hB6 := below_step hB5 hb6) | (go_at_call 22; refine (C5 _ hB5).mono ?_; rintro e w6 ⟨v4, rfl, hv4, hb6⟩; have hB6 := below_step hB5 hb6; have bx6 := blk_below bx5 hb6; have x0 := cell_of_blk bx6 0; have x1 := cell_of_blk bx6 1; have x2 := cell_of_blk bx6 2; have x3 := cell_of_blk bx6 3; have x4 := cell_of_blk bx6 4) | (go_at_call 150; refine (C6 _ hB5 bx5).mono ?_; rintro e w6 ⟨rfl, hb6⟩; have hB6 := below_step hB5 hb6) | (go_at_call 81; refine (C3 _ hB6).mono ?_; rintro e w7 ⟨v7, rfl, hv7, hb7⟩; have hB7 := below_step hB6 hb7))
        go_ret2
        exact ⟨_, rfl, Kd.R_nil _ _ _ _ _, hB5⟩
    · rw [if_neg c1] at h
      cases h
      replace c1 := Bool.eq_false_iff.mpr c1
      subst c1
      clear hr0
      go_enter Try.func128, Try.ntmps128
      go_wp2_with (first | (go_at_call 79; refine (C1 _ hB1).mono ?_; rintro e w3 ⟨rfl, hb3⟩; have hB3 := below_step hB1 hb3; have bx3 := blk_below hbx hb3; have y0 := cell_of_blk bx3 0; have y1 := cell_of_blk bx3 1; have y2 := cell_of_blk bx3 2; have y3 := cell_of_blk bx3 3; have y4 := cell_of_blk bx3 4) | (go_at_call 149; refine (C2 _).mono ?_; rintro e w5 ⟨rfl, hb5⟩; have hB5 := below_step hB3 hb5; have bx5 := blk_below bx3 hb5; have z0 := cell_of_blk bx5 0; have z1 := cell_of_blk bx5 1; have z2 := cell_of_blk bx5 2; have z3 := cell_of_blk bx5 3; have z4 := cell_of_blk bx5 4) | (go_at_call 28; refine (C4 _ hB5).mono ?_; rintro e w6 ⟨v4, rfl, hv4, hb6⟩; have hB6 := below_step hB5 hb6) | (go_at_call 22; refine (C5 _ hB5).mono ?_; rintro e w6 ⟨v4, rfl, hv4, hb6⟩; have hB6 := below_step hB5 hb6; have bx6 := blk_below bx5 hb6; have x0 := cell_of_blk bx6 0; have x1 := cell_of_blk bx6 1; have x2 := cell_of_blk bx6 2; have x3 := cell_of_blk bx6 3; have x4 := cell_of_blk bx6 4) | (go_at_call 150; refine (C6 _ hB5 bx5).mono ?_; rintro e w6 ⟨rfl, hb6⟩; have hB6 := below_step hB5 hb6) | (go_at_call 81; refine (C3 _ hB6).mono ?_; rintro e w7 ⟨v7, rfl, hv7, hb7⟩; have hB7 := below_step hB6 hb7))
      go_ret2
      exact ⟨_, rfl, Kd.R_nil _ _ _ _ _, hB3⟩
  · rw [if_neg hlen] at h
    cases h
end Go.Proofs.Ytmnjppfebaeoiaa.PB1
