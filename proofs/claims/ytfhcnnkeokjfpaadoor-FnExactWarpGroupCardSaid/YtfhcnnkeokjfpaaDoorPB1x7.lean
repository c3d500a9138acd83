/- What functions of the program compute, each as a Lean function, and that the run comes to just that. Conditions: none. (Laid by this session's own program.) -/
import Derived.Test.YtfhcnnkeokjfpaaDoorT
import Derived.Test.YtfhcnnkeokjfpaaDoorPB1x0
import Derived.Test.YtfhcnnkeokjfpaaDoorPB1x2
import Derived.Test.YtfhcnnkeokjfpaaDoorPB1x4
import Derived.Test.YtfhcnnkeokjfpaaDoorPB1x5
import Derived.Test.YtfhcnnkeokjfpaaDoorPB1x6
namespace Go.Proofs.YtfhcnnkeokjfpaaDoor.PB1
open Go.RowKit Go.Proofs.YtfhcnnkeokjfpaaDoorW.PrintWords Go.Proofs.YtfhcnnkeokjfpaaDoorW.PrintLast Go.Proofs.YtfhcnnkeokjfpaaDoorW.PrintMore Go.Proofs.YtfhcnnkeokjfpaaDoor.T
attribute [local go_sem] max2_int min2_int max_two min_two max_three min_three max_four min_four   -- for this text's walks alone
set_option linter.unusedVariables false
set_option linter.unusedSimpArgs false

/-! ### spec_BitsOf: function 44 -/
def spec_BitsOf.l0 : Nat → List Int → List Int → Int → Option (Int × Bool)
  | 0, _, _, _ => none
  | k + 1, x0, x4, x5 => if x5 < (x0.length : Int) then (if 0 ≤ x5 then (if (rd x0 x5) < 0 then (some (0, false)) else (if (rd x0 x5) > 31 then (some (0, false)) else (if 0 ≤ (rd x0 x5) then (if (rd x0 x5) < (x4.length : Int) then (if (rd x4 (rd x0 x5)) = 1 then (some (0, false)) else (spec_BitsOf.l0 k x0 (x4.set ((rd x0 x5) : Int).toNat 1) (wrap64 (x5 + 1)))) else (none)) else (none)))) else (none)) else ((spec_l01Word.f k x4).bind fun t176 => (some (t176, true)))
def spec_BitsOf.f (k : Nat) (l0 : List Int) : Option (Int × Bool) := if 32 ≤ 35184372088832 then (spec_BitsOf.l0 k l0 (List.replicate 32 0) 0) else (none)
theorem spec_BitsOf.mono_l : ∀ k, (∀ y0 y1 y2, LeO (spec_BitsOf.l0 k y0 y1 y2) (spec_BitsOf.l0 (k + 1) y0 y1 y2))
  | 0 => fun _ _ _ r h => by simp [spec_BitsOf.l0] at h
  | k + 1 => by
    have ih0 := spec_BitsOf.mono_l k
    · intro y0 y1 y2
      unfold spec_BitsOf.l0
      repeat' first
        | (with_reducible first | exact ih0 .. | exact spec_l01Word.mono .. | exact LeO.refl _ | exact LeO.none _ | refine LeO.ite ?_ ?_ | refine LeO.bind ?_ (fun _ => ?_))
        | exact LeO.none _ | refine LeO.ite ?_ ?_ | refine LeO.bind ?_ (fun _ => ?_)
theorem spec_BitsOf.mono : ∀ a0 k, LeO (spec_BitsOf.f k a0) (spec_BitsOf.f (k + 1) a0) := by
  intro a0 k
  have ih0 := spec_BitsOf.mono_l k
  unfold spec_BitsOf.f
  repeat' first
    | (with_reducible first | exact ih0 .. | exact spec_l01Word.mono .. | exact LeO.refl _ | exact LeO.none _ | refine LeO.ite ?_ ?_ | refine LeO.bind ?_ (fun _ => ?_))
    | exact LeO.none _ | refine LeO.ite ?_ ?_ | refine LeO.bind ?_ (fun _ => ?_)
set_option maxHeartbeats 8000000 in
set_option maxRecDepth 100000 in
theorem spec_BitsOf.calls (k : Nat) (A0 : Option Addr) (c0 : Nat) (l0 : List Int) (r1 : Int) (r2 : Bool) (w : World) (hr0 : Kd.C (Kd.int .i64) w A0 l0.length l0) (hc0 : l0.length ≤ c0) (h : spec_BitsOf.f k l0 = some (r1, r2)) :
    Calls Tryd.prog 44 #[.slice A0 l0.length c0] w fun e w' => e = .returned (.tuple #[.int .u32 r1, .bool r2]) ∧ Below w.heap.size w w' := by
  have HR0 := Aside0.mk hr0
  have HC0 := Aside0.mk hc0
  clear hr0 hc0
  have HB := Aside0.mk (Below.refl w.heap.size w)
  unfold spec_BitsOf.f at h
  have H := h
  clear h
  by_cases c2 : 32 ≤ 35184372088832
  · rw [if_pos c2] at H
    have c2b0 := eq_true c2
    have c2b1 : decide (32 ≤ 35184372088832) = true := decide_eq_true c2
    clear c2
    obtain ⟨y167, hy167⟩ : ∃ y_ : List Int, y_ = (List.replicate 32 0) := ⟨_, rfl⟩
    rw [← hy167] at H
    have Ny167 := Aside0.mk hy167
    clear hy167
    have H' := Aside0.mk H
    clear H
    go_enter Tryd.func44, Tryd.ntmps44
    go_wp2_with (first | ((with_reducible refine gate_dst (N := 6) rfl ?_); refine Kd.R_make (Kd.int .i64) _ 3 rfl (N := 6) rfl 22 _ _ rfl 32 rfl rfl Tryd.underlying22 (.int .i64 0) 8 info3 rfl (by decide) (by omega) 0 (ok := fun _ => True) (okp := fun _ => True) rfl (fun _ hk => hk) trivial (by omega) (by omega) (Below.refl _ _) (Nat.le_refl _) ?_; intro v168 w3 ho4 hb hg_ hnew_; clear hg_ hnew_; (first | rw [← Ny167.out] at ho4 | (simp only [Int.reduceToNat] at ho4; rw [← Ny167.out] at ho4)); have HO169 := Aside0.mk (Kd.R_lower ho4 (below_size bw)); replace HB := hs hb; clear hb ho4))
    go_loopg [5] k (fun kq v5 w' => ∃ (x4_1 : List Int) (x5_1 : Int), v5 = .int .i64 x5_1 ∧ Aside0 (spec_BitsOf.l0 kq l0 x4_1 x5_1 = some (r1, r2)) ∧ Aside0 (kq ≤ k) ∧ Aside0 (Kd.R (Kd.int .i64) 3 w' w.heap.size (fun _ => True) v168 x4_1) ∧ Aside0 (Below w.heap.size w w'))
    case atStart => exact ⟨(y167), (0), ev, H', ⟨Nat.le_refl _⟩, ⟨ro HO169⟩, ⟨bw⟩⟩
    case round =>
      clear H'
      try clear c2
      try clear c2b0
      try clear c2b1
      obtain ⟨x4_1, x5_1, rfl, HA, HK1, HO_4, HB⟩ := hrel
      cases gk with
      | zero => exact absurd HA.out (by simp [spec_BitsOf.l0])
      | succ k1 =>
        have H := HA.out
        clear HA
        simp only [spec_BitsOf.l0] at H
        replace H := ilt H
        rcases H with ⟨c5b0, H⟩ | ⟨c5b0, H⟩
        · by_cases c6 : 0 ≤ x5_1
          · rw [if_pos c6] at H
            have c6b0 : decide (0 ≤ x5_1) = true := decide_eq_true c6
            clear c6
            replace H := ilt H
            rcases H with ⟨c7b0, H⟩ | ⟨c7b0, H⟩
            · simp only [Option.some.injEq, Prod.mk.injEq] at H
              obtain ⟨rfl, rfl⟩ := H
              have p170 : 0 ≤ (x5_1 : Int) := of_decide_eq_true as_
              have q170 : x5_1 < (l0.length : Int) := of_decide_eq_true as_
              obtain ⟨ad170, e170, hx170_0⟩ := Kd.at_int HR0.out x5_1 p170 q170
              cases e170
              replace hx170_0 := cl HB hx170_0
              replace p170 := eq_true p170
              replace q170 := eq_true q170
              go_wp2
              go_ret2
              exact ⟨rt, bw⟩
            · replace H := igt H
              rcases H with ⟨c8b0, H⟩ | ⟨c8b0, H⟩
              · simp only [Option.some.injEq, Prod.mk.injEq] at H
                obtain ⟨rfl, rfl⟩ := H
                have p170 : 0 ≤ (x5_1 : Int) := of_decide_eq_true as_
                have q170 : x5_1 < (l0.length : Int) := of_decide_eq_true as_
                obtain ⟨ad170, e170, hx170_0⟩ := Kd.at_int HR0.out x5_1 p170 q170
                cases e170
                replace hx170_0 := cl HB hx170_0
                replace p170 := eq_true p170
                replace q170 := eq_true q170
                have p171 : 0 ≤ (x5_1 : Int) := of_decide_eq_true as_
                have q171 : x5_1 < (l0.length : Int) := of_decide_eq_true as_
                obtain ⟨ad171, e171, hx171_0⟩ := Kd.at_int HR0.out x5_1 p171 q171
                obtain rfl : ad170 = ad171 := (by injection e171)
                replace hx171_0 := cl HB hx171_0
                replace p171 := eq_true p171
                replace q171 := eq_true q171
                go_wp2
                go_ret2
                exact ⟨rt, bw⟩
              · by_cases c9 : 0 ≤ (rd l0 x5_1)
                · rw [if_pos c9] at H
                  have c9b0 : decide (0 ≤ (rd l0 x5_1)) = true := decide_eq_true c9
                  clear c9
                  by_cases c10 : (rd l0 x5_1) < (x4_1.length : Int)
                  · rw [if_pos c10] at H
                    have c10b0 : decide ((rd l0 x5_1) < (x4_1.length : Int)) = true := decide_eq_true c10
                    clear c10
                    replace H := ieq H
                    rcases H with ⟨c11b0, c11b1, H⟩ | ⟨c11, c11b0, c11b1, H⟩
                    · simp only [Option.some.injEq, Prod.mk.injEq] at H
                      obtain ⟨rfl, rfl⟩ := H
                      have p170 : 0 ≤ (x5_1 : Int) := of_decide_eq_true as_
                      have q170 : x5_1 < (l0.length : Int) := of_decide_eq_true as_
                      obtain ⟨ad170, e170, hx170_0⟩ := Kd.at_int HR0.out x5_1 p170 q170
                      cases e170
                      replace hx170_0 := cl HB hx170_0
                      replace p170 := eq_true p170
                      replace q170 := eq_true q170
                      have p171 : 0 ≤ (x5_1 : Int) := of_decide_eq_true as_
                      have q171 : x5_1 < (l0.length : Int) := of_decide_eq_true as_
                      obtain ⟨ad171, e171, hx171_0⟩ := Kd.at_int HR0.out x5_1 p171 q171
                      obtain rfl : ad170 = ad171 := (by injection e171)
                      replace hx171_0 := cl HB hx171_0
                      replace p171 := eq_true p171
                      replace q171 := eq_true q171
                      have p172 : 0 ≤ (x5_1 : Int) := of_decide_eq_true as_
                      have q172 : x5_1 < (l0.length : Int) := of_decide_eq_true as_
                      obtain ⟨ad172, e172, hx172_0⟩ := Kd.at_int HR0.out x5_1 p172 q172
                      obtain rfl : ad170 = ad172 := (by injection e172)
                      replace hx172_0 := cl HB hx172_0
                      replace p172 := eq_true p172
                      replace q172 := eq_true q172
                      obtain ⟨Ao12, co12, eo12⟩ := Kd.R_slice HO_4.out
                      subst eo12
                      have p173 : 0 ≤ ((rd l0 x5_1) : Int) := of_decide_eq_true as_
                      have q173 : (rd l0 x5_1) < (x4_1.length : Int) := of_decide_eq_true as_
                      obtain ⟨ad173, e173, hx173_0⟩ := Kd.at_int (Kd.R_reads' HO_4.out).2.2 (rd l0 x5_1) p173 q173
                      cases e173
                      replace p173 := eq_true p173
                      replace q173 := eq_true q173
                      go_wp2
                      go_ret2
                      exact ⟨rt, bw⟩
                    · obtain ⟨y175, hy175⟩ : ∃ y_ : List Int, y_ = (x4_1.set ((rd l0 x5_1) : Int).toNat 1) := ⟨_, rfl⟩
                      rw [← hy175] at H
                      have Ny175 := Aside0.mk hy175
                      clear hy175
                      have H' := Aside0.mk H
                      clear H
                      have p170 : 0 ≤ (x5_1 : Int) := of_decide_eq_true as_
                      have q170 : x5_1 < (l0.length : Int) := of_decide_eq_true as_
                      obtain ⟨ad170, e170, hx170_0⟩ := Kd.at_int HR0.out x5_1 p170 q170
                      cases e170
                      replace hx170_0 := cl HB hx170_0
                      replace p170 := eq_true p170
                      replace q170 := eq_true q170
                      have p171 : 0 ≤ (x5_1 : Int) := of_decide_eq_true as_
                      have q171 : x5_1 < (l0.length : Int) := of_decide_eq_true as_
                      obtain ⟨ad171, e171, hx171_0⟩ := Kd.at_int HR0.out x5_1 p171 q171
                      obtain rfl : ad170 = ad171 := (by injection e171)
                      replace hx171_0 := cl HB hx171_0
                      replace p171 := eq_true p171
                      replace q171 := eq_true q171
                      have p172 : 0 ≤ (x5_1 : Int) := of_decide_eq_true as_
                      have q172 : x5_1 < (l0.length : Int) := of_decide_eq_true as_
                      obtain ⟨ad172, e172, hx172_0⟩ := Kd.at_int HR0.out x5_1 p172 q172
                      obtain rfl : ad170 = ad172 := (by injection e172)
                      replace hx172_0 := cl HB hx172_0
                      replace p172 := eq_true p172
                      replace q172 := eq_true q172
                      obtain ⟨Ao14, co14, eo14⟩ := Kd.R_slice HO_4.out
                      subst eo14
                      have p173 : 0 ≤ ((rd l0 x5_1) : Int) := of_decide_eq_true as_
                      have q173 : (rd l0 x5_1) < (x4_1.length : Int) := of_decide_eq_true as_
                      obtain ⟨ad173, e173, hx173_0⟩ := Kd.at_int (Kd.R_reads' HO_4.out).2.2 (rd l0 x5_1) p173 q173
                      cases e173
                      replace p173 := eq_true p173
                      replace q173 := eq_true q173
                      have p174 : 0 ≤ (x5_1 : Int) := of_decide_eq_true as_
                      have q174 : x5_1 < (l0.length : Int) := of_decide_eq_true as_
                      obtain ⟨ad174, e174, hx174_0⟩ := Kd.at_int HR0.out x5_1 p174 q174
                      obtain rfl : ad170 = ad174 := (by injection e174)
                      replace hx174_0 := cl HB hx174_0
                      replace p174 := eq_true p174
                      replace q174 := eq_true q174
                      have p13 : 0 ≤ ((rd l0 x5_1) : Int) := of_decide_eq_true as_
                      have q13 : ((rd l0 x5_1) : Int) < ((x4_1.length : Int) : Int) := of_decide_eq_true as_
                      obtain ⟨go13, co13, eo13, gb13, gl13, cl13, HG13⟩ := Kd.R_form HO_4.out (by omega)
                      (first | cases eo13 | (injection eo13 with ea_ en_ ec_; (first | subst ea_ | (injection ea_ with ea_; subst ea_)); subst ec_; clear en_))
                      have GB13 := Aside0.mk gb13
                      have GG13 := Aside0.mk HG13
                      clear gb13 gl13 HG13
                      (first | simp only [add_plain] at hx173_0 | skip)
                      obtain ⟨hx13_0, hf13_0⟩ := Kd.R_celln 0 HO_4.out ((rd l0 x5_1) : Int) p13 q13
                      replace p13 := eq_true p13
                      replace q13 := eq_true q13
                      have HP15 := Kd.R_putg HO_4.out ((rd l0 x5_1) : Int) 1
                      go_wp2_with (first | ((with_reducible refine gate_store (t := 3) (p := 40) rfl ?_); refine store_event (t := 3) (p := 40) (v := ?vo_w16) (w1 := (wr.setCell ⟨go13, ((rd l0 x5_1) : Int).toNat, none⟩ (.int .i64 1))) ?hg ?ho ?hn ?hr ?_; (case ho => rfl); (case hg => rfl); (case hn => rfl); (case hr => first | (go_simp; done) | (go_simp; rfl)); intro w16 hw; have hg : wr.grownBy w16 (some go13) := (by rw [hw]; exact HP15.2); have hp_ : Kd.R (Kd.int .i64) 3 w16 w.heap.size (fun _ => True) (.slice (some ⟨go13, 0, none⟩) x4_1.length co14) y175 := (by rw [hw, Ny175.out]; exact HP15.1); clear HP15; replace HO_4 := Aside0.mk (hp_); replace HB := Aside0.mk ((by rw [hw]; exact below_set (HB.out) GB13.out : Below w.heap.size w w16)); clear hg hw hp_))
                      go_roundg k1
                      case measure => have := HK1.out; omega
                      case rel => exact ⟨(y175), (wrap64 (x5_1 + 1)), ev, H', ⟨oa HK1⟩, ⟨ro HO_4⟩, ⟨bw⟩⟩
                  · rw [if_neg c10] at H
                    exact absurd H (by simp)
                · rw [if_neg c9] at H
                  exact absurd H (by simp)
          · rw [if_neg c6] at H
            exact absurd H (by simp)
        · replace H := bn H
          obtain ⟨t176, A17, H⟩ := H
          try dsimp only at H
          simp only [Option.some.injEq, Prod.mk.injEq] at H
          obtain ⟨rfl, rfl⟩ := H
          obtain ⟨Ao18, co18, eo18⟩ := Kd.R_slice HO_4.out
          subst eo18
          go_wp2_with (first | ((with_reducible refine gf 79 ?_); refine gc Tryd.func79 (some 42) (spec_l01Word.calls _ Ao18 co18 _ _ _ (cr HO_4) ((Kd.R_reads' HO_4.out).2.1) A17.out) ?_; rintro e w' ⟨rfl, ⟨nd, rfl⟩⟩; refine ⟨_, rfl, ?_⟩))
          go_ret2
          exact ⟨rt, bw⟩
  · rw [if_neg c2] at H
    exact absurd H (by simp)

/-! ### spec_ClassSize: function 113 -/
def spec_ClassSize.f (k : Nat) (a0 : Int) : Option (Int) := (spec_l04Class.f a0).bind fun t177 => (if t177 = true then ((spec_l04Pow.f k a0).bind fun t178 => (some t178)) else (some 0))
theorem spec_ClassSize.mono : ∀ a0 k, LeO (spec_ClassSize.f k a0) (spec_ClassSize.f (k + 1) a0) := by
  intro a0 k
  unfold spec_ClassSize.f
  repeat' first
    | (with_reducible first | exact spec_l04Pow.mono .. | exact LeO.refl _ | exact LeO.none _ | refine LeO.ite ?_ ?_ | refine LeO.bind ?_ (fun _ => ?_))
    | exact LeO.none _ | refine LeO.ite ?_ ?_ | refine LeO.bind ?_ (fun _ => ?_)
set_option maxHeartbeats 8000000 in
set_option maxRecDepth 100000 in
theorem spec_ClassSize.calls (k : Nat) (a0 : Int) (r : Int) (w : World) (h : spec_ClassSize.f k a0 = some r) :
    Calls Tryd.prog 113 #[.int .i64 a0] w fun e w' => e = .returned (.int .i64 r) ∧ Drawn0 w w' := by
  unfold spec_ClassSize.f at h
  have H := h
  clear h
  replace H := bn H
  obtain ⟨t177, A2, H⟩ := H
  try dsimp only at H
  have HU3 := Aside0.mk H
  clear H
  go_enter Tryd.func113, Tryd.ntmps113
  go_upto_if 5 with (first | ((with_reducible refine gf 67 ?_); refine gc Tryd.func67 (some 4) (spec_l04Class.calls _ _ _ A2.out) ?_; rintro e w' ⟨rfl, ⟨nd, rfl⟩⟩; refine ⟨_, rfl, ?_⟩))
  (try refine ap ?_)
  have H := HU3.out
  clear HU3
  replace H := ib H
  rcases H with ⟨rfl, H⟩ | ⟨rfl, H⟩
  · (try simp only [Bool.not_true, Bool.not_false])
    replace H := bn H
    obtain ⟨t178, A5, H⟩ := H
    try dsimp only at H
    obtain rfl := Option.some.inj H
    go_wp2_with (first | ((with_reducible refine gf 70 ?_); refine gc Tryd.func70 (some 7) (spec_l04Pow.calls _ _ _ _ A5.out) ?_; rintro e w' ⟨rfl, ⟨nd, rfl⟩⟩; refine ⟨_, rfl, ?_⟩))
    go_ret
    exact ⟨ev, dr⟩
  · (try simp only [Bool.not_true, Bool.not_false])
    obtain rfl := Option.some.inj H
    go_wp2
    go_ret
    exact ⟨ev, dr⟩

/-! ### spec_BlockAt: function 100 -/
def spec_BlockAt.j0 : Nat → Int → Bool → Int → Int → Int → Int → Option (Int × Int × Bool)
  | 0, _, _, _, _, _, _ => none
  | k + 1, x1, x30, x185000, x185001, x185002, x185003 => if x30 = true then (some (0, 0, false)) else ((spec_ClassSize.f k x185001).bind fun t185 => ((spec_l01Bits.f k x185002).bind fun t186 => (if t185 = 0 then (none) else (if 0 ≤ (wrap64 (Int.tdiv x1 t185)) then (if (wrap64 (Int.tdiv x1 t185)) < (t186.length : Int) then (if (rd t186 (wrap64 (Int.tdiv x1 t185))) = 0 then (some (0, 0, false)) else (some (wrap64 ((wrap64 (Int.tdiv x1 t185)) * t185), t185, true))) else (none)) else (none)))))
def spec_BlockAt.f (k : Nat) (a0 : Int) (a1 : Int) : Option (Int × Int × Bool) := (spec_CtlRead.f k a0).bind fun bt179 => (if bt179.2.2.2.2 = true then (if bt179.1 = 1 then (if a1 < 0 then (spec_BlockAt.j0 k a1 true bt179.1 bt179.2.1 bt179.2.2.1 bt179.2.2.2.1) else (spec_BlockAt.j0 k a1 (decide (a1 ≥ 16)) bt179.1 bt179.2.1 bt179.2.2.1 bt179.2.2.2.1)) else (spec_BlockAt.j0 k a1 true bt179.1 bt179.2.1 bt179.2.2.1 bt179.2.2.2.1)) else (spec_BlockAt.j0 k a1 true bt179.1 bt179.2.1 bt179.2.2.1 bt179.2.2.2.1))
theorem spec_BlockAt.mono_l : ∀ k, (∀ y0 y1 y2 y3 y4 y5, LeO (spec_BlockAt.j0 k y0 y1 y2 y3 y4 y5) (spec_BlockAt.j0 (k + 1) y0 y1 y2 y3 y4 y5))
  | 0 => fun _ _ _ _ _ _ r h => by simp [spec_BlockAt.j0] at h
  | k + 1 => by
    have ih0 := spec_BlockAt.mono_l k
    · intro y0 y1 y2 y3 y4 y5
      unfold spec_BlockAt.j0
      repeat' first
        | (with_reducible first | exact ih0 .. | exact spec_ClassSize.mono .. | exact spec_CtlRead.mono .. | exact spec_l01Bits.mono .. | exact LeO.refl _ | exact LeO.none _ | refine LeO.ite ?_ ?_ | refine LeO.bind ?_ (fun _ => ?_))
        | exact LeO.none _ | refine LeO.ite ?_ ?_ | refine LeO.bind ?_ (fun _ => ?_)
theorem spec_BlockAt.mono : ∀ a0 a1 k, LeO (spec_BlockAt.f k a0 a1) (spec_BlockAt.f (k + 1) a0 a1) := by
  intro a0 a1 k
  have ih0 := spec_BlockAt.mono_l k
  unfold spec_BlockAt.f
  repeat' first
    | (with_reducible first | exact ih0 .. | exact spec_ClassSize.mono .. | exact spec_CtlRead.mono .. | exact spec_l01Bits.mono .. | exact LeO.refl _ | exact LeO.none _ | refine LeO.ite ?_ ?_ | refine LeO.bind ?_ (fun _ => ?_))
    | exact LeO.none _ | refine LeO.ite ?_ ?_ | refine LeO.bind ?_ (fun _ => ?_)
set_option maxHeartbeats 8000000 in
set_option maxRecDepth 100000 in
theorem spec_BlockAt.calls (k : Nat) (a0 : Int) (a1 : Int) (r1 : Int) (r2 : Int) (r3 : Bool) (w : World) (h : spec_BlockAt.f k a0 a1 = some (r1, r2, r3)) :
    Calls Tryd.prog 100 #[.int .u32 a0, .int .i64 a1] w fun e w' => e = .returned (.tuple #[.int .i64 r1, .int .i64 r2, .bool r3]) ∧ Below w.heap.size w w' := by
  have hu91 := Tryd.underlying91
  have HB := Aside0.mk (Below.refl w.heap.size w)
  unfold spec_BlockAt.f at h
  have H := h
  clear h
  replace H := bn H
  obtain ⟨⟨t179, t180, t181, t182, t183⟩, A3, H⟩ := H
  try dsimp only at H
  have HC4 := Aside0.mk H
  clear H
  go_enter Tryd.func100, Tryd.ntmps100
  go_upto_region 2 with (first | ((with_reducible refine gf 66 ?_); refine gc Tryd.func66 (some 13) (spec_CtlRead.calls _ _ _ _ _ _ _ _ A3.out) ?_; rintro e w5 ⟨rfl, hb⟩; refine ⟨_, rfl, ?_⟩; replace HB := hs hb; try clear hb) | ((with_reducible refine gd 7 ?_); refine bx 7 91 #[.int .i64 0, .int .i64 0, .int .u32 0, .int .i64 0] ?_; clear HB; intro gb184 w6 hg BK184 hb GE184 HB; clear hb hg; obtain ⟨z7_0, z7_1, z7_2, z7_3⟩ := ca4 BK184; obtain ⟨f7_0, f7_1, f7_2, f7_3⟩ := fa4 BK184))
  (try refine ap ?_)
  go_cut [30] (fun v30 wc => ∃ (kq : Nat) (x30_3 : Bool), v30 = .bool x30_3 ∧ Aside0 (spec_BlockAt.j0 kq a1 x30_3 t179 t180 t181 t182 = some (r1, r2, r3)) ∧ Aside0 (kq ≤ k) ∧ Aside0 (wc.heap[gb184]? = some (.cells #[.int .i64 t179, .int .i64 t180, .int .u32 t181, .int .i64 t182] 91 (0, 0))) ∧ Aside0 (Below w.heap.size w wc))
  case first =>
    have H := HC4.out
    clear HC4
    replace H := ib H
    rcases H with ⟨rfl, H⟩ | ⟨rfl, H⟩
    · (try simp only [Bool.not_true, Bool.not_false])
      replace H := ieq H
      rcases H with ⟨c9b0, c9b1, H⟩ | ⟨c9, c9b0, c9b1, H⟩
      · replace H := ilt H
        rcases H with ⟨c10b0, H⟩ | ⟨c10b0, H⟩
        · have H' := Aside0.mk H
          clear H
          obtain ⟨z11_0, z11_1, z11_2, z11_3⟩ := ca4 BK184
          obtain ⟨f11_0, f11_1, f11_2, f11_3⟩ := fa4 BK184
          go_wp2
          go_meet
          case rel => exact ⟨_, (true), ev, H', ⟨om⟩, ⟨bp BK184⟩, ⟨bw⟩⟩
        · have H' := Aside0.mk H
          clear H
          obtain ⟨z12_0, z12_1, z12_2, z12_3⟩ := ca4 BK184
          obtain ⟨f12_0, f12_1, f12_2, f12_3⟩ := fa4 BK184
          go_wp2
          go_meet
          case rel => exact ⟨_, (decide (a1 ≥ 16)), ev, H', ⟨om⟩, ⟨bp BK184⟩, ⟨bw⟩⟩
      · have H' := Aside0.mk H
        clear H
        obtain ⟨z13_0, z13_1, z13_2, z13_3⟩ := ca4 BK184
        obtain ⟨f13_0, f13_1, f13_2, f13_3⟩ := fa4 BK184
        go_wp2
        go_meet
        case rel => exact ⟨_, (true), ev, H', ⟨om⟩, ⟨bp BK184⟩, ⟨bw⟩⟩
    · (try simp only [Bool.not_true, Bool.not_false])
      have H' := Aside0.mk H
      clear H
      go_wp2
      go_meet
      case rel => exact ⟨_, (true), ev, H', ⟨om⟩, ⟨bp BK184⟩, ⟨bw⟩⟩
  case rest =>
    clear HC4
    (try clear z7_0 z7_1 z7_2 z7_3)
    (try clear f7_0 f7_1 f7_2 f7_3)
    obtain ⟨kq, x30_3, rfl, HA, HJ3, BK184, HB⟩ := hcut
    cases kq with
    | zero => exact absurd HA.out (by simp [spec_BlockAt.j0])
    | succ kj3 =>
      have H := HA.out
      clear HA
      simp only [spec_BlockAt.j0] at H
      replace H := ib H
      rcases H with ⟨rfl, H⟩ | ⟨rfl, H⟩
      · simp only [Option.some.injEq, Prod.mk.injEq] at H
        obtain ⟨rfl, rfl, rfl⟩ := H
        go_wp2
        go_ret3
        exact ⟨rt, bw⟩
      · replace H := bn H
        obtain ⟨t185, A15, H⟩ := H
        try dsimp only at H
        replace H := bn H
        obtain ⟨t186, A16, H⟩ := H
        try dsimp only at H
        by_cases c17 : t185 = 0
        · rw [if_pos c17] at H
          exact absurd H (by simp)
        · rw [if_neg c17] at H
          have c17b0 : (t185 == 0) = false := beq_eq_false_iff_ne.mpr c17
          have c17b1 : (t185 != 0) = true := bne_iff_ne.mpr c17
          obtain ⟨ji18, hji18⟩ : ∃ j_ : Int, (wrap64 (Int.tdiv a1 t185)) = j_ := ⟨_, rfl⟩
          first | rw [hji18] at H | simp only [hji18] at H
          (try rw [hji18] at A15)
          (try rw [hji18] at A16)
          have hji18w : (IntKind.i64.wrap (Int.tdiv a1 t185)) = ji18 := (i64_w _).trans hji18
          by_cases c19 : 0 ≤ (ji18)
          · rw [if_pos c19] at H
            have c19b0 : decide (0 ≤ (ji18)) = true := decide_eq_true c19
            clear c19
            by_cases c20 : (ji18) < (t186.length : Int)
            · rw [if_pos c20] at H
              have c20b0 : decide ((ji18) < (t186.length : Int)) = true := decide_eq_true c20
              clear c20
              have HU21 := Aside0.mk H
              clear H
              obtain ⟨z22_0, z22_1, z22_2, z22_3⟩ := ca4 BK184
              obtain ⟨f22_0, f22_1, f22_2, f22_3⟩ := fa4 BK184
              go_upto_if 43 with (first | ((with_reducible refine gf 113 ?_); refine gc Tryd.func113 (some 33) (spec_ClassSize.calls _ _ _ _ A15.out) ?_; rintro e w' ⟨rfl, ⟨nd, rfl⟩⟩; refine ⟨_, rfl, ?_⟩) | ((with_reducible refine gf 65 ?_); refine gc Tryd.func65 (some 36) (spec_l01Bits.calls _ _ _ _ A16.out) ?_; rintro e w23 ⟨v187, rfl, ho0, hb⟩; refine ⟨_, rfl, ?_⟩; have HO188 := Aside0.mk (Kd.R_lower ho0 (below_size bw)); replace BK184 := b_ BK184 hb; replace HB := hs hb; try clear hb; (try clear ho0); obtain ⟨Ao24, co24, eo24⟩ := Kd.R_slice HO188.out; subst eo24; have p189 : 0 ≤ ((ji18) : Int) := of_decide_eq_true as_; have q189 : (ji18) < (t186.length : Int) := of_decide_eq_true as_; obtain ⟨ad189, e189, hx189_0⟩ := Kd.at_int (Kd.R_reads' HO188.out).2.2 (ji18) p189 q189; cases e189; replace p189 := eq_true p189; replace q189 := eq_true q189))
              (try refine ap ?_)
              have H := HU21.out
              clear HU21
              replace H := ieq H
              rcases H with ⟨c25b0, c25b1, H⟩ | ⟨c25, c25b0, c25b1, H⟩
              · (first | rw [c25b0] | (simp only [i64_w, i32_w]; rw [c25b0]) | (simp only [c25b2, Bool.not_true, Bool.not_false]) | (simp only [c25b1, Bool.not_true, Bool.not_false]) | skip)
                simp only [Option.some.injEq, Prod.mk.injEq] at H
                obtain ⟨rfl, rfl, rfl⟩ := H
                go_wp2
                go_ret3
                exact ⟨by first | exact rt1 | (simp only [← hji18]; exact rt1) | exact rt, bw⟩
              · (first | rw [c25b0] | (simp only [i64_w, i32_w]; rw [c25b0]) | (simp only [c25b2, Bool.not_true, Bool.not_false]) | (simp only [c25b1, Bool.not_true, Bool.not_false]) | skip)
                simp only [Option.some.injEq, Prod.mk.injEq] at H
                obtain ⟨rfl, rfl, rfl⟩ := H
                go_wp2
                go_ret3
                exact ⟨by first | exact rt1 | (simp only [← hji18]; exact rt1) | exact rt, bw⟩
            · rw [if_neg c20] at H
              exact absurd H (by simp)
          · rw [if_neg c19] at H
            exact absurd H (by simp)

/-! ### spec_CtlPack: function 101 -/
def spec_CtlPack.f (k : Nat) (a0_0 : Int) (a0_1 : Int) (a0_2 : Int) (a0_3 : Int) : Option (Int × Bool) := (spec_CtlOk.f k a0_0 a0_1 a0_2 a0_3).bind fun t191 => (if t191 = true then (some ((wrap64 ((wrap64 ((wrap64 ((wrap64 (a0_2)) + (wrap64 (65536 * a0_1)))) + (wrap64 (1048576 * a0_0)))) + (wrap64 (16777216 * a0_3)))) % 4294967296, true)) else (some (0, false)))
theorem spec_CtlPack.mono : ∀ a0 a1 a2 a3 k, LeO (spec_CtlPack.f k a0 a1 a2 a3) (spec_CtlPack.f (k + 1) a0 a1 a2 a3) := by
  intro a0 a1 a2 a3 k
  unfold spec_CtlPack.f
  repeat' first
    | (with_reducible first | exact spec_CtlOk.mono .. | exact LeO.refl _ | exact LeO.none _ | refine LeO.ite ?_ ?_ | refine LeO.bind ?_ (fun _ => ?_))
    | exact LeO.none _ | refine LeO.ite ?_ ?_ | refine LeO.bind ?_ (fun _ => ?_)
set_option maxHeartbeats 8000000 in
set_option maxRecDepth 100000 in
theorem spec_CtlPack.calls (k : Nat) (a0_0 : Int) (a0_1 : Int) (a0_2 : Int) (a0_3 : Int) (r1 : Int) (r2 : Bool) (w : World) (h : spec_CtlPack.f k a0_0 a0_1 a0_2 a0_3 = some (r1, r2)) :
    Calls Tryd.prog 101 #[.agg #[.int .i64 a0_0, .int .i64 a0_1, .int .u32 a0_2, .int .i64 a0_3]] w fun e w' => e = .returned (.tuple #[.int .u32 r1, .bool r2]) ∧ Below w.heap.size w w' := by
  have hu91 := Tryd.underlying91
  have HB := Aside0.mk (Below.refl w.heap.size w)
  unfold spec_CtlPack.f at h
  have H := h
  clear h
  replace H := bn H
  obtain ⟨t191, A2, H⟩ := H
  try dsimp only at H
  have HU3 := Aside0.mk H
  clear H
  go_enter Tryd.func101, Tryd.ntmps101
  go_upto_if 6 with (first | ((with_reducible refine gd 1 ?_); refine bx 1 91 #[.int .i64 a0_0, .int .i64 a0_1, .int .u32 a0_2, .int .i64 a0_3] ?_; clear HB; intro gb190 w4 hg BK190 hb GE190 HB; clear hb hg; obtain ⟨z5_0, z5_1, z5_2, z5_3⟩ := ca4 BK190; obtain ⟨f5_0, f5_1, f5_2, f5_3⟩ := fa4 BK190) | ((with_reducible refine gf 99 ?_); refine gc Tryd.func99 (some 5) (spec_CtlOk.calls _ _ _ _ _ _ _ A2.out) ?_; rintro e w6 ⟨rfl, hb⟩; refine ⟨_, rfl, ?_⟩; replace BK190 := b_ BK190 hb; replace HB := hs hb; try clear hb))
  (try refine ap ?_)
  have H := HU3.out
  clear HU3
  replace H := ib H
  rcases H with ⟨rfl, H⟩ | ⟨rfl, H⟩
  · (try simp only [Bool.not_true, Bool.not_false])
    simp only [Option.some.injEq, Prod.mk.injEq] at H
    obtain ⟨rfl, rfl⟩ := H
    obtain ⟨z8_0, z8_1, z8_2, z8_3⟩ := ca4 BK190
    obtain ⟨f8_0, f8_1, f8_2, f8_3⟩ := fa4 BK190
    go_wp2
    go_ret2
    exact ⟨rt, bw⟩
  · (try simp only [Bool.not_true, Bool.not_false])
    simp only [Option.some.injEq, Prod.mk.injEq] at H
    obtain ⟨rfl, rfl⟩ := H
    go_wp2
    go_ret2
    exact ⟨rt, bw⟩

/-! ### spec_Release: function 71 -/
def spec_Release.j0 : Nat → Int → Int → Int → Bool → Option (Int × Int × Bool)
  | 0, _, _, _, _ => none
  | k + 1, x0, x1, x8, x29 => if x29 = true then (some (0, 0, false)) else ((spec_CtlRead.f k x0).bind fun bt195 => (if x8 = 0 then (none) else ((spec_BitsOf.f k (([wrap64 (Int.tdiv x1 x8)] : List Int))).bind fun bt204 => (if ((bt195.2.2.1 - bt204.1) % 4294967296) = 0 then (some (0, x8, true)) else ((spec_CtlPack.f k bt195.1 bt195.2.1 ((bt195.2.2.1 - bt204.1) % 4294967296) bt195.2.2.2.1).bind fun bt206 => (some (bt206.1, x8, true)))))))
def spec_Release.f (k : Nat) (a0 : Int) (a1 : Int) : Option (Int × Int × Bool) := (spec_BlockAt.f k a0 a1).bind fun bt192 => (if bt192.2.2 = true then (spec_Release.j0 k a0 a1 bt192.2.1 (bt192.1 != a1)) else (spec_Release.j0 k a0 a1 bt192.2.1 true))
theorem spec_Release.mono_l : ∀ k, (∀ y0 y1 y2 y3, LeO (spec_Release.j0 k y0 y1 y2 y3) (spec_Release.j0 (k + 1) y0 y1 y2 y3))
  | 0 => fun _ _ _ _ r h => by simp [spec_Release.j0] at h
  | k + 1 => by
    have ih0 := spec_Release.mono_l k
    · intro y0 y1 y2 y3
      unfold spec_Release.j0
      repeat' first
        | (with_reducible first | exact ih0 .. | exact spec_BitsOf.mono .. | exact spec_BlockAt.mono .. | exact spec_CtlPack.mono .. | exact spec_CtlRead.mono .. | exact LeO.refl _ | exact LeO.none _ | refine LeO.ite ?_ ?_ | refine LeO.bind ?_ (fun _ => ?_))
        | exact LeO.none _ | refine LeO.ite ?_ ?_ | refine LeO.bind ?_ (fun _ => ?_)
theorem spec_Release.mono : ∀ a0 a1 k, LeO (spec_Release.f k a0 a1) (spec_Release.f (k + 1) a0 a1) := by
  intro a0 a1 k
  have ih0 := spec_Release.mono_l k
  unfold spec_Release.f
  repeat' first
    | (with_reducible first | exact ih0 .. | exact spec_BitsOf.mono .. | exact spec_BlockAt.mono .. | exact spec_CtlPack.mono .. | exact spec_CtlRead.mono .. | exact LeO.refl _ | exact LeO.none _ | refine LeO.ite ?_ ?_ | refine LeO.bind ?_ (fun _ => ?_))
    | exact LeO.none _ | refine LeO.ite ?_ ?_ | refine LeO.bind ?_ (fun _ => ?_)
set_option maxHeartbeats 8000000 in
set_option maxRecDepth 100000 in
theorem spec_Release.calls (k : Nat) (a0 : Int) (a1 : Int) (r1 : Int) (r2 : Int) (r3 : Bool) (w : World) (h : spec_Release.f k a0 a1 = some (r1, r2, r3)) :
    Calls Tryd.prog 71 #[.int .u32 a0, .int .i64 a1] w fun e w' => e = .returned (.tuple #[.int .u32 r1, .int .i64 r2, .bool r3]) ∧ Below w.heap.size w w' := by
  have hu91 := Tryd.underlying91
  have HB := Aside0.mk (Below.refl w.heap.size w)
  unfold spec_Release.f at h
  have H := h
  clear h
  replace H := bn H
  obtain ⟨⟨t192, t193, t194⟩, A3, H⟩ := H
  try dsimp only at H
  have HC4 := Aside0.mk H
  clear H
  go_enter Tryd.func71, Tryd.ntmps71
  go_upto_region 2 with (first | ((with_reducible refine gf 100 ?_); refine gc Tryd.func100 (some 19) (spec_BlockAt.calls _ _ _ _ _ _ _ A3.out) ?_; rintro e w5 ⟨rfl, hb⟩; refine ⟨_, rfl, ?_⟩; replace HB := hs hb; try clear hb))
  (try refine ap ?_)
  go_cut [29] (fun v29 wc => ∃ (kq : Nat) (x29_3 : Bool), v29 = .bool x29_3 ∧ Aside0 (spec_Release.j0 kq a0 a1 t193 x29_3 = some (r1, r2, r3)) ∧ Aside0 (kq ≤ k) ∧ Aside0 (Below w.heap.size w wc))
  case first =>
    have H := HC4.out
    clear HC4
    replace H := ib H
    rcases H with ⟨rfl, H⟩ | ⟨rfl, H⟩
    · (try simp only [Bool.not_true, Bool.not_false])
      have H' := Aside0.mk H
      clear H
      go_wp2
      go_meet
      case rel => exact ⟨_, ((t192 != a1)), ev, H', ⟨om⟩, ⟨bw⟩⟩
    · (try simp only [Bool.not_true, Bool.not_false])
      have H' := Aside0.mk H
      clear H
      go_wp2
      go_meet
      case rel => exact ⟨_, (true), ev, H', ⟨om⟩, ⟨bw⟩⟩
  case rest =>
    clear HC4
    obtain ⟨kq, x29_3, rfl, HA, HJ3, HB⟩ := hcut
    cases kq with
    | zero => exact absurd HA.out (by simp [spec_Release.j0])
    | succ kj3 =>
      have H := HA.out
      clear HA
      simp only [spec_Release.j0] at H
      replace H := ib H
      rcases H with ⟨rfl, H⟩ | ⟨rfl, H⟩
      · simp only [Option.some.injEq, Prod.mk.injEq] at H
        obtain ⟨rfl, rfl, rfl⟩ := H
        go_wp2
        go_ret3
        exact ⟨rt, bw⟩
      · replace H := bn H
        obtain ⟨⟨t195, t196, t197, t198, t199⟩, A8, H⟩ := H
        try dsimp only at H
        by_cases c9 : t193 = 0
        · rw [if_pos c9] at H
          exact absurd H (by simp)
        · rw [if_neg c9] at H
          have c9b0 : (t193 == 0) = false := beq_eq_false_iff_ne.mpr c9
          have c9b1 : (t193 != 0) = true := bne_iff_ne.mpr c9
          obtain ⟨y201, hy201⟩ : ∃ y_ : List Int, y_ = (([wrap64 (Int.tdiv a1 t193)] : List Int)) := ⟨_, rfl⟩
          rw [← hy201] at H
          have Ny201 := Aside0.mk hy201
          clear hy201
          replace H := bn H
          obtain ⟨⟨t204, t205⟩, A10, H⟩ := H
          try dsimp only at H
          have HU11 := Aside0.mk H
          clear H
          go_upto_if 50 with (first | ((with_reducible refine gf 66 ?_); refine gc Tryd.func66 (some 32) (spec_CtlRead.calls _ _ _ _ _ _ _ _ A8.out) ?_; rintro e w12 ⟨rfl, hb⟩; refine ⟨_, rfl, ?_⟩; replace HB := hs hb; try clear hb) | ((with_reducible refine gd 10 ?_); refine bx 10 91 #[.int .i64 0, .int .i64 0, .int .u32 0, .int .i64 0] ?_; clear HB; intro gb200 w13 hg BK200 hb GE200 HB; clear hb hg; obtain ⟨z14_0, z14_1, z14_2, z14_3⟩ := ca4 BK200; obtain ⟨f14_0, f14_1, f14_2, f14_3⟩ := fa4 BK200) | ((with_reducible refine gate_dst (N := 39) rfl ?_); refine Kd.R_lit (Kd.int .i64) _ 3 ?hg (N := 39) ?hd (xs := ([wrap64 (Int.tdiv a1 t193)] : List Int)) (inner := [.int .i64 (wrap64 (Int.tdiv a1 t193))]) (ok := fun _ => True) (okp := fun _ => True) ?hr ?hp (fun _ hk => hk) trivial (Below.refl _ _) (Nat.le_refl _) (by simp) ?_; (case hd => rfl); (case hg => rfl); (case hr => first | (go_simp; done) | (go_simp; rfl)); (case hp => exact (Reps.one (show Kd.M (Kd.int .i64) _ _ _ (wrap64 (Int.tdiv a1 t193)) [.int .i64 (wrap64 (Int.tdiv a1 t193))] from rfl) (Reps.none _ _))); intro v202 w15 ho16 hb hg_ hnew_; clear hg_ hnew_; (first | rw [← Ny201.out] at ho16 | (simp only [Int.reduceToNat] at ho16; rw [← Ny201.out] at ho16)); have HO203 := Aside0.mk (Kd.R_lower ho16 (below_size bw)); replace BK200 := bq BK200 #[.int .i64 t195, .int .i64 t196, .int .u32 t197, .int .i64 t198] hb; replace HB := hs hb; clear hb ho16; obtain ⟨Ao17, co17, eo17⟩ := Kd.R_slice HO203.out; subst eo17) | ((with_reducible refine gf 44 ?_); refine gc Tryd.func44 (some 40) (spec_BitsOf.calls _ Ao17 co17 _ _ _ _ (cr HO203) ((Kd.R_reads' HO203.out).2.1) A10.out) ?_; rintro e w18 ⟨rfl, hb⟩; refine ⟨_, rfl, ?_⟩; replace HO203 := Aside0.mk (Kd.R_below (ro HO203) hb); replace BK200 := b_ BK200 hb; replace HB := hs hb; try clear hb; obtain ⟨z19_0, z19_1, z19_2, z19_3⟩ := ca4 BK200; obtain ⟨f19_0, f19_1, f19_2, f19_3⟩ := fa4 BK200))
          (try refine ap ?_)
          have H := HU11.out
          clear HU11
          replace H := ieq H
          rcases H with ⟨c20b0, c20b1, H⟩ | ⟨c20, c20b0, c20b1, H⟩
          · (first | rw [c20b0] | (simp only [i64_w, i32_w]; rw [c20b0]) | (simp only [c20b2, Bool.not_true, Bool.not_false]) | (simp only [c20b1, Bool.not_true, Bool.not_false]) | skip)
            simp only [Option.some.injEq, Prod.mk.injEq] at H
            obtain ⟨rfl, rfl, rfl⟩ := H
            go_wp2
            go_ret3
            exact ⟨rt, bw⟩
          · (first | rw [c20b0] | (simp only [i64_w, i32_w]; rw [c20b0]) | (simp only [c20b2, Bool.not_true, Bool.not_false]) | (simp only [c20b1, Bool.not_true, Bool.not_false]) | skip)
            replace H := bn H
            obtain ⟨⟨t206, t207⟩, A21, H⟩ := H
            try dsimp only at H
            simp only [Option.some.injEq, Prod.mk.injEq] at H
            obtain ⟨rfl, rfl, rfl⟩ := H
            obtain ⟨z22_0, z22_1, z22_2, z22_3⟩ := ca4 BK200
            obtain ⟨f22_0, f22_1, f22_2, f22_3⟩ := fa4 BK200
            go_wp2_with (first | ((with_reducible refine gf 101 ?_); refine gc Tryd.func101 (some 54) (spec_CtlPack.calls _ _ _ _ _ _ _ _ A21.out) ?_; rintro e w23 ⟨rfl, hb⟩; refine ⟨_, rfl, ?_⟩; replace HO203 := Aside0.mk (Kd.R_below (by (with_reducible repeat (first | apply Kd.R_alloc | apply Kd.R_drewN | apply Kd.R_drew)); exact (Kd.R_mono (Kd.R_far (p := ⟨gb200, 2, none⟩) (Kd.R_types HO203.out BK200.out (by decide)) (fun _ hk => hk.2) (.int .u32 ((t197 - t204) % 4294967296))) (fun _ h_ => h_.1))) hb); replace BK200 := bq BK200 #[.int .i64 t195, .int .i64 t196, .int .u32 ((t197 - t204) % 4294967296), .int .i64 t198] hb; replace HB := hs hb; try clear hb))
            go_ret3
            exact ⟨rt, bw⟩

/-! ### spec_l07Gives: function 40 -/
def spec_l07Gives.f (k : Nat) (a0 : Int) (a1 : Int) : Option (Bool) := (spec_Release.f k a0 a1).bind fun bt208 => ((spec_CtlRead.f k a0).bind fun bt211 => (if bt208.2.2 = true then (some true) else (if bt211.2.2.2.2 = true then (if bt211.1 = 2 then (some (a1 == 0)) else (some false)) else (some false))))
theorem spec_l07Gives.mono : ∀ a0 a1 k, LeO (spec_l07Gives.f k a0 a1) (spec_l07Gives.f (k + 1) a0 a1) := by
  intro a0 a1 k
  unfold spec_l07Gives.f
  repeat' first
    | (with_reducible first | exact spec_CtlRead.mono .. | exact spec_Release.mono .. | exact LeO.refl _ | exact LeO.none _ | refine LeO.ite ?_ ?_ | refine LeO.bind ?_ (fun _ => ?_))
    | exact LeO.none _ | refine LeO.ite ?_ ?_ | refine LeO.bind ?_ (fun _ => ?_)
set_option maxHeartbeats 8000000 in
set_option maxRecDepth 100000 in
theorem spec_l07Gives.calls (k : Nat) (a0 : Int) (a1 : Int) (r : Bool) (w : World) (h : spec_l07Gives.f k a0 a1 = some r) :
    Calls Tryd.prog 40 #[.int .u32 a0, .int .i64 a1] w fun e w' => e = .returned (.bool r) ∧ Below w.heap.size w w' := by
  have hu91 := Tryd.underlying91
  have HB := Aside0.mk (Below.refl w.heap.size w)
  unfold spec_l07Gives.f at h
  have H := h
  clear h
  replace H := bn H
  obtain ⟨⟨t208, t209, t210⟩, A3, H⟩ := H
  try dsimp only at H
  replace H := bn H
  obtain ⟨⟨t211, t212, t213, t214, t215⟩, A4, H⟩ := H
  try dsimp only at H
  replace H := ib H
  rcases H with ⟨rfl, H⟩ | ⟨rfl, H⟩
  · obtain rfl := Option.some.inj H
    go_enter Tryd.func40, Tryd.ntmps40
    go_wp2_with (first | ((with_reducible refine gf 71 ?_); refine gc Tryd.func71 (some 13) (spec_Release.calls _ _ _ _ _ _ _ A3.out) ?_; rintro e w6 ⟨rfl, hb⟩; refine ⟨_, rfl, ?_⟩; replace HB := hs hb; try clear hb) | ((with_reducible refine gf 66 ?_); refine gc Tryd.func66 (some 19) (spec_CtlRead.calls _ _ _ _ _ _ _ _ A4.out) ?_; rintro e w7 ⟨rfl, hb⟩; refine ⟨_, rfl, ?_⟩; replace HB := hs hb; try clear hb) | ((with_reducible refine gd 8 ?_); refine bx 8 91 #[.int .i64 0, .int .i64 0, .int .u32 0, .int .i64 0] ?_; clear HB; intro gb216 w8 hg BK216 hb GE216 HB; clear hb hg; obtain ⟨z9_0, z9_1, z9_2, z9_3⟩ := ca4 BK216; obtain ⟨f9_0, f9_1, f9_2, f9_3⟩ := fa4 BK216))
    go_ret
    exact ⟨rt, bw⟩
  · replace H := ib H
    rcases H with ⟨rfl, H⟩ | ⟨rfl, H⟩
    · replace H := ieq H
      rcases H with ⟨c11b0, c11b1, H⟩ | ⟨c11, c11b0, c11b1, H⟩
      · obtain rfl := Option.some.inj H
        go_enter Tryd.func40, Tryd.ntmps40
        go_wp2_with (first | ((with_reducible refine gf 71 ?_); refine gc Tryd.func71 (some 13) (spec_Release.calls _ _ _ _ _ _ _ A3.out) ?_; rintro e w12 ⟨rfl, hb⟩; refine ⟨_, rfl, ?_⟩; replace HB := hs hb; try clear hb) | ((with_reducible refine gf 66 ?_); refine gc Tryd.func66 (some 19) (spec_CtlRead.calls _ _ _ _ _ _ _ _ A4.out) ?_; rintro e w13 ⟨rfl, hb⟩; refine ⟨_, rfl, ?_⟩; replace HB := hs hb; try clear hb) | ((with_reducible refine gd 8 ?_); refine bx 8 91 #[.int .i64 0, .int .i64 0, .int .u32 0, .int .i64 0] ?_; clear HB; intro gb216 w14 hg BK216 hb GE216 HB; clear hb hg; obtain ⟨z15_0, z15_1, z15_2, z15_3⟩ := ca4 BK216; obtain ⟨f15_0, f15_1, f15_2, f15_3⟩ := fa4 BK216))
        go_ret
        exact ⟨rt, bw⟩
      · obtain rfl := Option.some.inj H
        go_enter Tryd.func40, Tryd.ntmps40
        go_wp2_with (first | ((with_reducible refine gf 71 ?_); refine gc Tryd.func71 (some 13) (spec_Release.calls _ _ _ _ _ _ _ A3.out) ?_; rintro e w16 ⟨rfl, hb⟩; refine ⟨_, rfl, ?_⟩; replace HB := hs hb; try clear hb) | ((with_reducible refine gf 66 ?_); refine gc Tryd.func66 (some 19) (spec_CtlRead.calls _ _ _ _ _ _ _ _ A4.out) ?_; rintro e w17 ⟨rfl, hb⟩; refine ⟨_, rfl, ?_⟩; replace HB := hs hb; try clear hb) | ((with_reducible refine gd 8 ?_); refine bx 8 91 #[.int .i64 0, .int .i64 0, .int .u32 0, .int .i64 0] ?_; clear HB; intro gb216 w18 hg BK216 hb GE216 HB; clear hb hg; obtain ⟨z19_0, z19_1, z19_2, z19_3⟩ := ca4 BK216; obtain ⟨f19_0, f19_1, f19_2, f19_3⟩ := fa4 BK216))
        go_ret
        exact ⟨rt, bw⟩
    · obtain rfl := Option.some.inj H
      go_enter Tryd.func40, Tryd.ntmps40
      go_wp2_with (first | ((with_reducible refine gf 71 ?_); refine gc Tryd.func71 (some 13) (spec_Release.calls _ _ _ _ _ _ _ A3.out) ?_; rintro e w20 ⟨rfl, hb⟩; refine ⟨_, rfl, ?_⟩; replace HB := hs hb; try clear hb) | ((with_reducible refine gf 66 ?_); refine gc Tryd.func66 (some 19) (spec_CtlRead.calls _ _ _ _ _ _ _ _ A4.out) ?_; rintro e w21 ⟨rfl, hb⟩; refine ⟨_, rfl, ?_⟩; replace HB := hs hb; try clear hb) | ((with_reducible refine gd 8 ?_); refine bx 8 91 #[.int .i64 0, .int .i64 0, .int .u32 0, .int .i64 0] ?_; clear HB; intro gb216 w22 hg BK216 hb GE216 HB; clear hb hg; obtain ⟨z23_0, z23_1, z23_2, z23_3⟩ := ca4 BK216; obtain ⟨f23_0, f23_1, f23_2, f23_3⟩ := fa4 BK216))
      go_ret
      exact ⟨rt, bw⟩

end Go.Proofs.YtfhcnnkeokjfpaaDoor.PB1
