/- The program's MachOk returns what the reference's MachOk returns, for every machine. Conditions: none. -/
import Derived.Test.YtfhcnnkeokjfpaaDoorMachLawM1
import Derived.Test.YtfhcnnkeokjfpaaDoorPM1x0
import Derived.Test.YtfhcnnkeokjfpaaDoorPM1x2
import Derived.Test.YtfhcnnkeokjfpaaDoorPM1x3
import Derived.Test.YtfhcnnkeokjfpaaDoorPM1x6
set_option linter.unusedSimpArgs false
namespace Go.Proofs.YtfhcnnkeokjfpaaDoor.Pure
open Go.RowKit Go.Proofs.YtfhcnnkeokjfpaaDoor.Own Go.Proofs.YtfhcnnkeokjfpaaDoor.Base Go.Proofs.YtfhcnnkeokjfpaaDoor.PM1 Go.Proofs.YtfhcnnkeokjfpaaDoorW.PrintWords Go.Proofs.YtfhcnnkeokjfpaaDoorW.PrintLast

theorem FnExactMachOk : laws_FnExactMachOk.Pure := by
  intro words aws ⟨hn1, hu1⟩ ⟨hn2, hw1⟩
  have hu : U32 words := fun x hx => wf_u32 (hu1 x hx)
  obtain ⟨s, ⟨K1, h1⟩, hs⟩ := szMach_tells words aws hn1 hn2 (fun x hx => ⟨(hw1 x hx).2.1.1, (hw1 x hx).2.2.1.1⟩)
  by_cases c : s < 0
  · refine ⟨K1, ?_⟩
    unfold laws_FnExactMachOk.f
    have h1' : laws_szMach.f K1 words aws 1048576 = some s := h1 K1 (Nat.le_refl _)
    rw [h1', Option.bind_some, if_pos c]
  · obtain ⟨l1, l2, l3⟩ := hs (by omega)
    obtain ⟨K2, h2⟩ := toMach_tells words aws l1 l2 l3
    have hwf : ∀ x ∈ aws.map conv, Wf x := by
      intro x hx
      obtain ⟨y, hy, rfl⟩ := List.mem_map.1 hx
      obtain ⟨_, q1, q2, q3, q4, q5, q6, q7⟩ := hw1 y hy
      exact ⟨wf_u32 q3, wf_u32 q7, wf_i64 q5, wf_i64 q6, fun v hv => wf_i64 (q1.2 v hv)⟩
    obtain ⟨r, m1, ⟨K3, m2⟩, _, _⟩ := mach_both words hu hn1 (aws.map conv) hwf (by rw [List.length_map]; exact hn2)
    obtain ⟨K4, m4⟩ := eqMach_tells words (aws.map conv) l1 (by rw [List.length_map]; exact l2) (fun j hj => by
      rw [List.length_map] at hj
      rw [rd_conv aws j hj]
      exact l3 j hj)
    refine ⟨K1 + K2 + K3 + K4, ?_⟩
    have h1' : laws_szMach.f (K1 + K2 + K3 + K4) words aws 1048576 = some s := h1 _ (by omega)
    have h2' : laws_toMach.f (K1 + K2 + K3 + K4) words aws = some (words, aws.map conv) := h2 _ (by omega)
    have m2' : spec_MachOk.f (K1 + K2 + K3 + K4) words (aws.map conv) = some r.2 := m2 _ (by omega)
    have m4' : laws_eqMach.f (K1 + K2 + K3 + K4) words (aws.map conv) words (aws.map conv) = some true := m4 _ (by omega)
    unfold laws_FnExactMachOk.f impl_MachOk.f
    rw [h1', Option.bind_some, if_neg c, h2', Option.bind_some, m2', Option.bind_some, Option.bind_some, m1, Option.bind_some, Option.bind_some, if_neg (by simp), Option.bind_some, m4', Option.bind_some, if_pos rfl]
end Go.Proofs.YtfhcnnkeokjfpaaDoor.Pure
