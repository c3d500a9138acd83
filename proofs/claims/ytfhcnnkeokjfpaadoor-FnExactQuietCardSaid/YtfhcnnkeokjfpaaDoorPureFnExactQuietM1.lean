/- The program's Quiet returns what the reference's Quiet returns, for every machine. Conditions: none. -/
import Derived.Test.YtfhcnnkeokjfpaaDoorMachLawM1
import Derived.Test.YtfhcnnkeokjfpaaDoorPM1x0
import Derived.Test.YtfhcnnkeokjfpaaDoorPM1x2
import Derived.Test.YtfhcnnkeokjfpaaDoorPM1x3
import Derived.Test.YtfhcnnkeokjfpaaDoorPM1x6
import Derived.Test.YtfhcnnkeokjfpaaDoorPM1yFnExactQuiet0
set_option linter.unusedSimpArgs false
namespace Go.Proofs.YtfhcnnkeokjfpaaDoor.Pure
open Go.RowKit Go.Proofs.YtfhcnnkeokjfpaaDoor.Own Go.Proofs.YtfhcnnkeokjfpaaDoor.Base Go.Proofs.YtfhcnnkeokjfpaaDoor.PM1 Go.Proofs.YtfhcnnkeokjfpaaDoorW.PrintWords Go.Proofs.YtfhcnnkeokjfpaaDoorW.PrintLast

theorem spec_idle (words : List Int) (ws : List S28) (hw : ws.length ≤ 9223372036854775806) : ∀ (m i : Nat), i + m = ws.length → Tells (fun k => spec_l08Quiet.l0 k i words ws) (!((ws.drop i).any fun x => x.f0 != 0))
  | 0, i, hm => by
    rw [List.drop_eq_nil_of_le (by omega)]
    exact Tells.now 0 fun k _ => by rw [spec_l08Quiet.l0, if_neg (by omega)]; rfl
  | m + 1, i, hm => by
    have hi : i < ws.length := by omega
    have w1 : wrap64 ((i : Int) + 1) = ((i + 1 : Nat) : Int) := by rw [w64 (by omega) (by omega)]; omega
    rw [rdT_drop ws i hi, List.any_cons]
    by_cases c : (rd_T28 ws (i : Int)).f0 = 0
    · rw [show ((rd_T28 ws (i : Int)).f0 != 0) = false by rw [c]; rfl, Bool.false_or]
      exact (spec_idle words ws hw m (i + 1) (by omega)).step 0 fun k _ => by rw [spec_l08Quiet.l0, if_pos (by omega), if_pos (by omega), if_pos c, w1]
    · rw [show ((rd_T28 ws (i : Int)).f0 != 0) = true from bne_iff_ne.mpr c, Bool.true_or]
      exact Tells.now 0 fun k _ => by rw [spec_l08Quiet.l0, if_pos (by omega), if_pos (by omega), if_neg c]; rfl
theorem FnExactQuiet : laws_FnExactQuiet.Pure := by
  intro words aws ⟨hn1, hu1⟩ ⟨hn2, hw1⟩
  have hu : U32 words := fun x hx => wf_u32 (hu1 x hx)
  obtain ⟨s, ⟨K1, h1⟩, hs⟩ := szMach_tells words aws hn1 hn2 (fun x hx => ⟨(hw1 x hx).2.1.1, (hw1 x hx).2.2.1.1⟩)
  by_cases c : s < 0
  · refine ⟨K1, ?_⟩
    unfold laws_FnExactQuiet.f
    have h1' : laws_szMach.f K1 words aws 1048576 = some s := h1 K1 (Nat.le_refl _)
    rw [h1', Option.bind_some, if_pos c]
  · obtain ⟨l1, l2, l3⟩ := hs (by omega)
    obtain ⟨K2, h2⟩ := toMach_tells words aws l1 l2 l3
    have hwf : ∀ x ∈ aws.map conv, Wf x := by
      intro x hx
      obtain ⟨y, hy, rfl⟩ := List.mem_map.1 hx
      obtain ⟨_, q1, q2, q3, q4, q5, q6, q7⟩ := hw1 y hy
      exact ⟨wf_u32 q3, wf_u32 q7, wf_i64 q5, wf_i64 q6, fun v hv => wf_i64 (q1.2 v hv)⟩
    obtain ⟨r, m1, ⟨K3, m2⟩, _, _⟩ := mach_both words hu hn1 (aws.map conv) hwf (by rw [List.length_map]; exact hn2)
    obtain ⟨K4, m4⟩ := eqMach_tells words (aws.map conv) l1 (by rw [List.length_map]; exact l2) (fun j hj => by
      rw [List.length_map] at hj
      rw [rd_conv aws j hj]
      exact l3 j hj)
    obtain ⟨K5, m5⟩ := spec_idle words (aws.map conv) (by rw [List.length_map]; omega) (aws.map conv).length 0 (by omega)
    rw [List.drop_zero] at m5
    have sq : spec_Quiet.f (K1 + K2 + K3 + K4 + K5) words (aws.map conv) = some (r.2 && !((aws.map conv).any fun x => x.f0 != 0)) := by
      have m2' : spec_MachOk.f (K1 + K2 + K3 + K4 + K5) words (aws.map conv) = some r.2 := m2 _ (by omega)
      have m5' : spec_l08Quiet.l0 (K1 + K2 + K3 + K4 + K5) 0 words (aws.map conv) = some (!((aws.map conv).any fun x => x.f0 != 0)) := m5 _ (by omega)
      unfold spec_Quiet.f spec_l08Quiet.f
      rw [m2', Option.bind_some, m5', Option.bind_some]
      cases r.2
      · rfl
      · rfl
    refine ⟨K1 + K2 + K3 + K4 + K5, ?_⟩
    have h1' : laws_szMach.f (K1 + K2 + K3 + K4 + K5) words aws 1048576 = some s := h1 _ (by omega)
    have h2' : laws_toMach.f (K1 + K2 + K3 + K4 + K5) words aws = some (words, aws.map conv) := h2 _ (by omega)
    have m4' : laws_eqMach.f (K1 + K2 + K3 + K4 + K5) words (aws.map conv) words (aws.map conv) = some true := m4 _ (by omega)
    have iq : impl_Quiet.f words (aws.map conv) = some (r.2 && !((aws.map conv).any fun x => x.f0 != 0)) := by
      unfold impl_Quiet.f
      rw [m1, Option.bind_some]
    unfold laws_FnExactQuiet.f
    rw [h1', Option.bind_some, if_neg c, h2', Option.bind_some, sq, Option.bind_some, Option.bind_some, iq, Option.bind_some, if_neg (by simp), Option.bind_some, m4', Option.bind_some, if_pos rfl]
end Go.Proofs.YtfhcnnkeokjfpaaDoor.Pure
