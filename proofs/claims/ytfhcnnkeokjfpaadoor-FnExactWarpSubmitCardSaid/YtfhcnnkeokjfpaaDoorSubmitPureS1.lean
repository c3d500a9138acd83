/- A warp that begins a request, the program's and the reference's. Conditions: none. -/
import Derived.Test.YtfhcnnkeokjfpaaDoorSetOfS1
import Derived.Test.YtfhcnnkeokjfpaaDoorMarkIntS1
import Derived.Test.YtfhcnnkeokjfpaaDoorWarpSpecS1
import Derived.Test.YtfhcnnkeokjfpaaDoorWarpLawS1
import Derived.Test.YtfhcnnkeokjfpaaDoorPS1x4
import Derived.Test.YtfhcnnkeokjfpaaDoorPS1x2
import Derived.Test.YtfhcnnkeokjfpaaDoorPS1x5
import Derived.Test.YtfhcnnkeokjfpaaDoorPS1x1
set_option linter.unusedVariables false
set_option linter.unusedSimpArgs false
namespace Go.Proofs.YtfhcnnkeokjfpaaDoor.Base
open Go.RowKit Go.Proofs.YtfhcnnkeokjfpaaDoor.PS1 Go.Proofs.YtfhcnnkeokjfpaaDoorW.PrintWords Go.Proofs.YtfhcnnkeokjfpaaDoorW.PrintLast Go.Proofs.YtfhcnnkeokjfpaaDoorW.PrintMore

theorem ask_01 (c : Int) (vals : List Int) : ∀ b ∈ askBits c vals, b = 0 ∨ b = 1 := by
  intro b hb
  unfold askBits at hb
  obtain ⟨x, _, rfl⟩ := List.mem_map.1 hb
  split <;> simp
theorem inc_ons8 : ∀ (l : List Int) (i : Nat), inc i (i + l.length) (ons i l)
  | [], i => trivial
  | b :: r, i => by
    have ih := inc_ons8 r (i + 1)
    rw [List.length_cons, show i + (r.length + 1) = i + 1 + r.length by omega, ons_cons]
    split
    · refine ⟨Int.le_refl _, by omega, ?_⟩
      simpa using ih
    · rw [List.nil_append]
      exact inc_mono ih (by omega)
theorem sum_ons_mk : ∀ (l : List Int) (i : Nat), sumL (ons i l) = 2 ^ i * mkN l
  | [], i => by simp [ons, sumL, mkN]
  | b :: r, i => by
    have ih := sum_ons_mk r (i + 1)
    rw [ons_cons, sum_append, ih]
    show _ = 2 ^ i * ((if b = 1 then 1 else 0) + 2 * mkN r)
    split
    · simp only [sumL, Int.toNat_natCast, Nat.pow_succ]
      rw [Nat.mul_add, Nat.mul_one, Nat.mul_assoc, Nat.add_zero]
    · simp only [sumL, Nat.pow_succ]
      rw [Nat.zero_add, Nat.zero_add, Nat.mul_assoc]
theorem spec_askSet (c : Int) (vals : List Int) (hl : vals.length = 8) (k : Nat) (hk : 100 < k) : spec_BitsOf.f k (ons 0 (askBits c vals)) = some (((mkN (askBits c vals) : Nat) : Int), true) := by
  have h := inc_ons8 (askBits c vals) 0
  rw [askBits_length, hl] at h
  have hlen : (ons 0 (askBits c vals)).length ≤ 32 := by
    have : ∀ (l : List Int) (i : Nat), (ons i l).length ≤ l.length := by
      intro l
      induction l with
      | nil => intro i; simp [ons]
      | cons b r ih => intro i; rw [ons_cons, List.length_append, List.length_cons]; have := ih (i + 1); split <;> simp <;> omega
    have := this (askBits c vals) 0
    rw [askBits_length, hl] at this
    omega
  have := spec_setOf _ (inc_mono_hi (by omega) _ _ h) hlen k hk
  rw [sum_ons_mk, Nat.pow_zero, Nat.one_mul] at this
  exact this
/-- What a submission answers. -/
def submitR (ok : Bool) (c : Int) (q : List Int) : Int × List Int × List Int × Int × Int × Int × Int × Int × Bool :=
  if ok = true then (if mkN (askBits c q) = 0 then 0 else c, q, List.replicate 8 (-1), ((mkN (askBits c q) : Nat) : Int), 0, 0, 0, 0, true) else (0, [], [], 0, 0, 0, 0, 0, false)
theorem reqOk_len {c : Int} {q : List Int} (h : reqOk c q = true) : q.length = 8 := by
  unfold reqOk at h
  simp only [Bool.and_eq_true, decide_eq_true_eq] at h
  exact h.1
theorem impl_submit (wok : Bool) (c : Int) (vals got : List Int) (t ph pr he seen rc : Int) (q : List Int) (k : Nat) (hk : 100 < k) (h : impl_isWarp.f k c vals got t ph pr he seen 16 = some wok) :
    impl_WarpSubmit.f k c vals got t ph pr he seen rc q = some (submitR (wok && (decide (c = 0) && reqOk rc q)) rc q) := by
  unfold impl_WarpSubmit.f submitR
  rw [h, Option.bind_some]
  cases wok
  · rw [if_neg Bool.false_ne_true]; rfl
  · rw [if_pos rfl]
    by_cases c0 : c = 0
    · rw [if_pos c0, impl_req, Option.bind_some]
      by_cases r0 : reqOk rc q = true
      · have hl := reqOk_len r0
        rw [if_pos r0, if_pos (by simp [c0, r0])]
        unfold impl_submitted.f slices_Clone_int_int.f impl_warpNew.f
        rw [if_pos (by omega), Option.bind_some, Option.bind_some, impl_asks_eq rc q hl k (by omega), Option.bind_some]
        by_cases m0 : mkN (askBits rc q) = 0
        · rw [if_pos (by omega), if_pos m0, Option.bind_some]
        · rw [if_neg (by omega), if_neg m0, Option.bind_some]
      · rw [if_neg r0, if_neg (by simp [r0])]
    · rw [if_neg c0, if_neg (by simp [c0])]
theorem spec_row (k : Nat) (hk : 20 < k) : spec_l07Row.f k (-1) = some (List.replicate 8 (-1)) := by
  have h0 : spec_l07Row.f 20 (-1) = some (List.replicate 8 (-1)) := by decide +kernel
  exact up (f := fun k => spec_l07Row.f k (-1)) (fun k => spec_l07Row.mono (-1) k) h0 k (by omega)
theorem spec_submit (wok : Bool) (c : Int) (vals got : List Int) (t ph pr he seen rc : Int) (q : List Int) (k : Nat) (hk : 200 < k) (hq : q.length ≤ 1048576) (h : spec_WarpOk.f k c vals got t ph pr he seen 16 = some wok) :
    spec_WarpSubmit.f k c vals got t ph pr he seen rc q = some (submitR (wok && (decide (c = 0) && reqOk rc q)) rc q) := by
  obtain ⟨k, rfl⟩ : ∃ m, k = m + 1 := ⟨k - 1, by omega⟩
  unfold spec_WarpSubmit.f submitR
  rw [h, Option.bind_some]
  have no : ∀ b : Bool, spec_WarpSubmit.j0 (k + 1) b rc q = if b = true then some (0, [], [], 0, 0, 0, 0, 0, false) else spec_WarpSubmit.j0 (k + 1) false rc q := by
    intro b
    cases b
    · rw [if_neg Bool.false_ne_true]
    · rw [if_pos rfl, spec_WarpSubmit.j0, if_pos rfl]
  cases wok
  · rw [if_neg Bool.false_ne_true, no, if_pos rfl]; rfl
  · rw [if_pos rfl]
    by_cases c0 : c = 0
    · rw [if_pos c0, spec_req rc q _ (by omega), Option.bind_some]
      by_cases r0 : reqOk rc q = true
      · have hl := reqOk_len r0
        rw [r0, Bool.not_true, if_pos (by simp [c0]), spec_WarpSubmit.j0, if_neg Bool.false_ne_true]
        unfold spec_WarpNew.f
        rw [spec_row k (by omega), Option.bind_some, Option.bind_some, Option.bind_some, Option.bind_some, if_pos (by simp; omega), Option.bind_some, spec_asks rc q hl k (by omega), Option.bind_some, spec_askSet rc q hl k (by omega), Option.bind_some]
        by_cases m0 : mkN (askBits rc q) = 0
        · rw [if_pos (by omega), if_pos m0, List.nil_append]
        · rw [if_neg (by omega), if_neg m0, List.nil_append]
      · rw [Bool.eq_false_iff.mpr r0, Bool.not_false, no, if_pos rfl, if_neg (by simp)]
    · rw [if_neg c0, no, if_pos rfl, if_neg (by simp [c0])]
theorem szReq_small (c : Int) (q : List Int) (n : Int) (h1 : q.length ≤ 9223372036854775807) (h0 : 0 ≤ n ∧ n ≤ 1048576) : laws_szReq.f c q n = some (if n < (q.length : Int) then -1 else n - q.length) := by
  unfold laws_szReq.f
  rw [szIntS_eq q n h1 h0.1 h0.2, Option.bind_some]
  by_cases c1 : n < (q.length : Int)
  · rw [if_pos c1, if_pos (by omega)]
  · rw [if_neg c1, if_neg (by omega)]
theorem toReq_eq (c : Int) (q : List Int) (h1 : q.length ≤ 1048576) (k : Nat) (hk : q.length < k) : laws_toReq.f k c q = some (c, q) := by
  unfold laws_toReq.f
  rw [toIntS_eq q h1 k hk, Option.bind_some]
theorem eqReq_self (c : Int) (q : List Int) (h1 : q.length ≤ 1048576) (k : Nat) (hk : q.length < k) : laws_eqReq.f k c q c q = some true := by
  unfold laws_eqReq.f
  rw [if_pos rfl, eqIntS_self q (by omega) k hk, Option.bind_some, if_pos rfl]
theorem markWarp_at (c : Int) (vals got : List Int) (t ph pr he seen y : Int) (h1 : vals.length ≤ 1048576) (h2 : got.length ≤ 1048576) (hy : 0 ≤ y ∧ y ≤ 5000000) (k : Nat) (hk : vals.length + got.length < k) :
    laws_markWarp.f k c vals got t ph pr he seen y = some (y + vals.length + got.length, ups y vals.length, ups (y + vals.length) got.length) := by
  unfold laws_markWarp.f
  rw [markIntS_at vals y k (by omega) (by omega) (by omega), Option.bind_some, markIntS_at got _ k (by omega) (by omega) (by omega), Option.bind_some]
theorem heldWarp_at (n m : Nat) (c t ph pr he seen y : Int) (h1 : n ≤ 1048576) (h2 : m ≤ 1048576) (hy : 0 ≤ y ∧ y ≤ 5000000) (k : Nat) (hk : n + m < k) :
    laws_heldWarp.f k c (ups y n) (ups (y + n) m) t ph pr he seen y = some (y + n + m) := by
  unfold laws_heldWarp.f
  rw [heldIntS_at n y k (by omega) (by omega) (by omega), Option.bind_some, if_neg (by omega), heldIntS_at m _ k (by omega) (by omega) (by omega), Option.bind_some, if_neg (by omega)]
theorem markReq_at (c : Int) (q : List Int) (y : Int) (h1 : q.length ≤ 1048576) (hy : 0 ≤ y ∧ y ≤ 5000000) (k : Nat) (hk : q.length < k) : laws_markReq.f k c q y = some (y + q.length, ups y q.length) := by
  unfold laws_markReq.f
  rw [markIntS_at q y k (by omega) (by omega) (by omega), Option.bind_some]
end Go.Proofs.YtfhcnnkeokjfpaaDoor.Base
