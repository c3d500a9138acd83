/- The program's WarpSubmit returns what the reference's WarpSubmit returns, in memory of its own, for every warp and request. Conditions: none. -/
import Derived.Test.YtfhcnnkeokjfpaaDoorSubmitPureS1
import Derived.Test.YtfhcnnkeokjfpaaDoorPS1x0
import Derived.Test.YtfhcnnkeokjfpaaDoorPS1x2
import Derived.Test.YtfhcnnkeokjfpaaDoorPS1x5
import Derived.Test.YtfhcnnkeokjfpaaDoorPS1x6
set_option linter.unusedSimpArgs false
namespace Go.Proofs.YtfhcnnkeokjfpaaDoor.Pure
open Go.RowKit Go.Proofs.YtfhcnnkeokjfpaaDoor.Base Go.Proofs.YtfhcnnkeokjfpaaDoor.PS1 Go.Proofs.YtfhcnnkeokjfpaaDoorW.PrintWords Go.Proofs.YtfhcnnkeokjfpaaDoorW.PrintLast

theorem submitR_len (ok : Bool) (c : Int) (q : List Int) (hq : q.length ≤ 1048576) : (submitR ok c q).2.1.length ≤ 1048576 ∧ (submitR ok c q).2.2.1.length ≤ 8 ∧ (submitR ok c q).2.1.length ≤ q.length := by
  unfold submitR
  split
  · simp; omega
  · simp
theorem FnExactWarpSubmit : laws_FnExactWarpSubmit.Pure := by
  intro c vals got t ph pr he seen rc q wc ⟨hn1, hv⟩ ⟨hn2, hg⟩ wt wph wpr whe wseen wrc ⟨hn3, hqv⟩
  have ht := wf_u32 wt
  have hs := wf_u32 wseen
  refine ⟨vals.length + got.length + q.length + 9000 + 3, ?_⟩
  have e1 := szWarp_small c vals got t ph pr he seen 1048576 hn1 hn2 (by omega)
  unfold laws_FnExactWarpSubmit.f
  rw [e1, Option.bind_some]
  by_cases hc : (1048576 : Int) < (vals.length : Int) + got.length
  · rw [if_pos hc, if_pos (by omega)]
  · rw [if_neg hc, if_neg (by omega), szReq_small rc q _ hn3 (by omega), Option.bind_some]
    by_cases hc2 : (1048576 : Int) - (vals.length : Int) - got.length < q.length
    · rw [if_pos hc2, if_pos (by omega)]
    · rw [if_neg hc2, if_neg (by omega)]
      have big : ∀ k, vals.length + got.length + q.length + 9000 ≤ k → laws_toWarp.f k c vals got t ph pr he seen = some (c, vals, got, t, ph, pr, he, seen) ∧ laws_toReq.f k rc q = some (rc, q) ∧ laws_eqWarp.f k c vals got t ph pr he seen c vals got t ph pr he seen = some true ∧ laws_eqReq.f k rc q rc q = some true := fun k hk =>
        ⟨toWarp_eq c vals got t ph pr he seen (by omega) (by omega) k (by omega), toReq_eq rc q (by omega) k (by omega), eqWarp_self c vals got t ph pr he seen (by omega) (by omega) k (by omega), eqReq_self rc q (by omega) k (by omega)⟩
      obtain ⟨ok, hok⟩ : ∃ b, b = (warpOk c vals got t ph pr he seen 16 && (decide (c = 0) && reqOk rc q)) := ⟨_, rfl⟩
      have sp : ∀ k, vals.length + got.length + q.length + 9000 ≤ k → spec_WarpSubmit.f k c vals got t ph pr he seen rc q = some (submitR ok rc q) := fun k hk => by
        rw [hok]
        exact spec_submit _ c vals got t ph pr he seen rc q k (by omega) (by omega) (spec_warp c vals got t ph pr he seen 16 ⟨ht.1, ht.2⟩ ⟨hs.1, hs.2⟩ k (by omega))
      have im : ∀ k, vals.length + got.length + q.length + 9000 ≤ k → impl_WarpSubmit.f k c vals got t ph pr he seen rc q = some (submitR ok rc q) := fun k hk => by
        rw [hok]
        exact impl_submit _ c vals got t ph pr he seen rc q k (by omega) (impl_warp c vals got t ph pr he seen 16 (wf_i64 wpr) (wf_i64 whe) (fun x hx => wf_i64 (hv x hx)) ⟨ht.1, ht.2⟩ ⟨hs.1, hs.2⟩ k (by omega))
      have hR := submitR_len ok rc q (by omega)
      clear hok e1
      generalize submitR ok rc q = R at sp im hR
      obtain ⟨r1, r2, r3, r4, r5, r6, r7, r8, r9⟩ := R
      dsimp only at hR
      obtain ⟨h1, h2, h3⟩ := hR
      have eqR : ∀ k, vals.length + got.length + q.length + 9000 ≤ k → laws_eqWarp.f k r1 r2 r3 r4 r5 r6 r7 r8 r1 r2 r3 r4 r5 r6 r7 r8 = some true := fun k hk => eqWarp_self r1 r2 r3 r4 r5 r6 r7 r8 h1 (by omega) k (by omega)
      have mkR : ∀ k, vals.length + got.length + q.length + 9000 ≤ k → laws_markWarp.f k r1 r2 r3 r4 r5 r6 r7 r8 1 = some ((1 : Int) + r2.length + r3.length, ups 1 r2.length, ups ((1 : Int) + r2.length) r3.length) := fun k hk => markWarp_at r1 r2 r3 r4 r5 r6 r7 r8 1 h1 (by omega) (by omega) k (by omega)
      have hdR : ∀ k, vals.length + got.length + q.length + 9000 ≤ k → laws_heldWarp.f k r1 (ups 1 r2.length) (ups ((1 : Int) + r2.length) r3.length) r4 r5 r6 r7 r8 1 = some ((1 : Int) + r2.length + r3.length) := fun k hk => heldWarp_at r2.length r3.length r1 r4 r5 r6 r7 r8 1 h1 (by omega) (by omega) k (by omega)
      have mkA : ∀ k, vals.length + got.length + q.length + 9000 ≤ k → ∃ y, 0 ≤ y ∧ laws_markWarp.f k c vals got t ph pr he seen 1 = some (y, ups 1 vals.length, ups ((1 : Int) + vals.length) got.length) ∧ ∃ z, 0 ≤ z ∧ laws_markReq.f k rc q y = some (z, ups y q.length) := fun k hk =>
        ⟨_, by omega, markWarp_at c vals got t ph pr he seen 1 (by omega) (by omega) (by omega) k (by omega), _, by omega, markReq_at rc q _ (by omega) (by omega) k (by omega)⟩
      generalize vals.length + got.length + q.length + 9000 = K at *
      clear hv hg hqv
      obtain ⟨b1, b2, b3, b4⟩ := big (K + 3) (by omega)
      rw [b1, Option.bind_some, b2, Option.bind_some, sp (K + 3) (by omega), Option.bind_some, Option.bind_some, Option.bind_some, im (K + 3) (by omega), Option.bind_some, eqR (K + 3) (by omega), Option.bind_some, if_pos rfl]
      dsimp only
      rw [bne_self_eq_false, laws_FnExactWarpSubmit.j0, if_neg Bool.false_ne_true]
      obtain ⟨b1, b2, b3, b4⟩ := big (K + 2) (by omega)
      obtain ⟨y, hy, m1, z, hz, m2⟩ := mkA (K + 2) (by omega)
      rw [b1, Option.bind_some, b3, Option.bind_some, if_pos rfl, b2, Option.bind_some, b4, Option.bind_some, if_pos rfl, m1, Option.bind_some, m2, Option.bind_some, if_neg (by omega), eqR (K + 2) (by omega), Option.bind_some, if_pos rfl, bne_self_eq_false, laws_FnExactWarpSubmit.j1, if_neg Bool.false_ne_true]
      obtain ⟨b1, b2, b3, b4⟩ := big (K + 1) (by omega)
      rw [mkR (K + 1) (by omega), Option.bind_some, hdR (K + 1) (by omega), Option.bind_some, if_neg (by omega), if_pos rfl, b1, Option.bind_some, b2, Option.bind_some, im (K + 1) (by omega), Option.bind_some, eqR (K + 1) (by omega), Option.bind_some, if_pos rfl]
      dsimp only
      rw [bne_self_eq_false, laws_FnExactWarpSubmit.j2, if_neg Bool.false_ne_true, hdR K (by omega), Option.bind_some, if_neg (by omega), if_pos rfl]
end Go.Proofs.YtfhcnnkeokjfpaaDoor.Pure
