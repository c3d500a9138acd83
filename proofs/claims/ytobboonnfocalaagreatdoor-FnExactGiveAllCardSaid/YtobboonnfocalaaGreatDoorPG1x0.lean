/- What functions of the program compute, each as a Lean function, and that the run comes to just that. Conditions: none. -/
import Derived.Test.YtobboonnfocalaaGreatDoorProg
import Derived.Below
import Derived.Deep.Draws
import Derived.Deep.AppendLies
import Derived.Maps.AppendAt
import Derived.OwnWalk
import Derived.Laws.BytesArg
import Derived.Laws.MakeOwn
import Derived.Laws.OwnMore
import Derived.Deep.OwnRows
import Derived.Tactics
import Derived.Lib.ConvBytes
import Derived.Laws.Slices
import Derived.WalkKit
import Derived.KernelRfl
import Derived.RowKit3
import Derived.Deep.LoopGhost
import Derived.Deep.QuietTactic
import Derived.BigQuiet
import Derived.WideLaws
import Derived.Deep.DeepCutAuto
import Derived.Deep.CutBlock
import Derived.Deep.RegionHeld3
import Derived.Laws.Rows
import Derived.Lib.AppendStr
import Derived.ArgAppend
import Derived.Laws.IdiomCopy
import Derived.OrdersHeld
import Derived.Laws.BitsLemmas
import Derived.RowKit
import Derived.Test.YtobboonnfocalaaGreatDoorVG10
import Derived.Test.YtobboonnfocalaaGreatDoorTG1
import Derived.Test.YtobboonnfocalaaGreatDoorT2G1
namespace Go.Proofs.YtobboonnfocalaaGreatDoor.PG1
open Go.RowKit Go.Proofs.YtobboonnfocalaaGreatDoorW.PrintWords Go.Proofs.YtobboonnfocalaaGreatDoorW.PrintLast Go.Proofs.YtobboonnfocalaaGreatDoorW.PrintMore
attribute [local go_sem] max2_int min2_int max_two min_two max_three min_three max_four min_four   -- for this text's walks alone
set_option linter.unusedVariables false
set_option linter.unusedSimpArgs false



def errW : Option Int → Value
 | none => .nilIface
 | some c => .iface 0 (.int .i64 c)
theorem errW_none : errW none = .nilIface := rfl
theorem errW_some (c : Int) : errW (some c) = .iface 0 (.int .i64 c) := rfl

theorem info3 : (Tryz.prog.info? 3).map (fun i => (i.zero, i.size, i.bytes)) = some (some (.int .i64 0), 1, 8) := by kernel_rfl
theorem info47 : (Tryz.prog.info? 47).map (fun i => (i.zero, i.size, i.bytes)) = some (some (.int .u32 0), 1, 4) := by kernel_rfl
theorem info49 : (Tryz.prog.info? 49).map (fun i => (i.zero, i.size, i.bytes)) = some (some (.agg #[(.int .i64 0), (.slice none 0 0), (.slice none 0 0), (.int .u32 0), (.int .i64 0), (.int .i64 0), (.int .i64 0), (.int .u32 0)]), 8, 96) := by kernel_rfl
theorem info55 : (Tryz.prog.info? 55).map (fun i => (i.zero, i.size, i.bytes)) = some (some (.agg #[(.int .i64 0), (.int .i64 0)]), 2, 16) := by kernel_rfl
-- the values' own types
def rd_L2 (xs : List (List Int)) (i : Int) : (List Int) := xs.getD i.toNat ([] : List Int)
theorem at_L2 {w : World} {A : Option Addr} {n : Nat} {xs : List (List Int)} (h : Kd.C (Kd.slice 3 (Kd.int .i64)) w A n xs) (i : Int) (h0 : 0 ≤ i) (h1 : i < n) : ∃ ad A0 c0, A = some ad ∧ w.cell? (ad.add i.toNat) = some (.slice A0 (rd_L2 xs i).length c0) ∧ (rd_L2 xs i).length ≤ c0 ∧ (Kd.int .i64).C w A0 (rd_L2 xs i).length (rd_L2 xs i) := by
 obtain ⟨ad, c, e, _, hK, hc0⟩ := Kd.C_get h ([] : List Int) i h0 h1
 have hc : ∀ j u, c[j]? = some u → w.cell? (ad.add (i.toNat * 1 + j)) = some u := hc0
 obtain ⟨A0, c0, rfl, l0, g0⟩ := hK
 exact ⟨ad, A0, c0, e, by have hq := hc 0 _ rfl; rwa [Nat.mul_one, Nat.add_zero] at hq, l0, g0⟩

/-! #### struct type 71 -/
structure S71 where
 f0 : Int
 f1 : (List Int)
 f2 : (List Int)
 f3 : Int
 f4 : Int
 f5 : Int
 f6 : Int
 f7 : Int
def z71 : S71 := ⟨(0 : Int), ([] : List Int), ([] : List Int), (0 : Int), (0 : Int), (0 : Int), (0 : Int), (0 : Int)⟩
def k71 : Kd S71 := Kd.iso (Kd.pair (Kd.int .i64) (Kd.pair (Kd.slice 3 (Kd.int .i64)) (Kd.pair (Kd.slice 3 (Kd.int .i64)) (Kd.pair (Kd.int .u32) (Kd.pair (Kd.int .i64) (Kd.pair (Kd.int .i64) (Kd.pair (Kd.int .i64) (Kd.int .u32)))))))) (fun x : S71 => (x.f0, x.f1, x.f2, x.f3, x.f4, x.f5, x.f6, x.f7))
theorem k71_open {w : World} {x : S71} {cs : List Value} (h : k71.K w x cs) : ∃ A1 c1 A2 c2, cs = [.int .i64 x.f0, .slice A1 x.f1.length c1, .slice A2 x.f2.length c2, .int .u32 x.f3, .int .i64 x.f4, .int .i64 x.f5, .int .i64 x.f6, .int .u32 x.f7] ∧ x.f1.length ≤ c1 ∧ (Kd.int .i64).C w A1 x.f1.length x.f1 ∧ x.f2.length ≤ c2 ∧ (Kd.int .i64).C w A2 x.f2.length x.f2 := by
 obtain ⟨_, _, rfl, rfl, ⟨_, _, rfl, ⟨A1, c1, rfl, l1, g1⟩, ⟨_, _, rfl, ⟨A2, c2, rfl, l2, g2⟩, ⟨_, _, rfl, rfl, ⟨_, _, rfl, rfl, ⟨_, _, rfl, rfl, ⟨_, _, rfl, rfl, rfl⟩⟩⟩⟩⟩⟩⟩ := h
 exact ⟨A1, c1, A2, c2, rfl, l1, g1, l2, g2⟩
theorem k71_openM {w : World} {base : Nat} {ok : Nat → Prop} {x : S71} {cs : List Value} (h : k71.M w base ok x cs) : ∃ v1 v2, cs = [.int .i64 x.f0, v1, v2, .int .u32 x.f3, .int .i64 x.f4, .int .i64 x.f5, .int .i64 x.f6, .int .u32 x.f7] ∧ (Kd.int .i64).R 3 w base ok v1 x.f1 ∧ (Kd.int .i64).R 3 w base ok v2 x.f2 := by
 obtain ⟨_, _, rfl, rfl, ⟨_, _, rfl, ⟨v1, rfl, g1⟩, ⟨_, _, rfl, ⟨v2, rfl, g2⟩, ⟨_, _, rfl, rfl, ⟨_, _, rfl, rfl, ⟨_, _, rfl, rfl, ⟨_, _, rfl, rfl, rfl⟩⟩⟩⟩⟩⟩⟩ := h
 exact ⟨v1, v2, rfl, g1, g2⟩
theorem k71_mk (w : World) (x : S71) {A1 : Option Addr} {c1 : Nat} (l1 : x.f1.length ≤ c1) (g1 : (Kd.int .i64).C w A1 x.f1.length x.f1) {A2 : Option Addr} {c2 : Nat} (l2 : x.f2.length ≤ c2) (g2 : (Kd.int .i64).C w A2 x.f2.length x.f2) : k71.K w x [.int .i64 x.f0, .slice A1 x.f1.length c1, .slice A2 x.f2.length c2, .int .u32 x.f3, .int .i64 x.f4, .int .i64 x.f5, .int .i64 x.f6, .int .u32 x.f7] := ⟨[.int .i64 x.f0], [.slice A1 x.f1.length c1, .slice A2 x.f2.length c2, .int .u32 x.f3, .int .i64 x.f4, .int .i64 x.f5, .int .i64 x.f6, .int .u32 x.f7], rfl, rfl, ⟨[.slice A1 x.f1.length c1], [.slice A2 x.f2.length c2, .int .u32 x.f3, .int .i64 x.f4, .int .i64 x.f5, .int .i64 x.f6, .int .u32 x.f7], rfl, ⟨A1, c1, rfl, l1, g1⟩, ⟨[.slice A2 x.f2.length c2], [.int .u32 x.f3, .int .i64 x.f4, .int .i64 x.f5, .int .i64 x.f6, .int .u32 x.f7], rfl, ⟨A2, c2, rfl, l2, g2⟩, ⟨[.int .u32 x.f3], [.int .i64 x.f4, .int .i64 x.f5, .int .i64 x.f6, .int .u32 x.f7], rfl, rfl, ⟨[.int .i64 x.f4], [.int .i64 x.f5, .int .i64 x.f6, .int .u32 x.f7], rfl, rfl, ⟨[.int .i64 x.f5], [.int .i64 x.f6, .int .u32 x.f7], rfl, rfl, ⟨[.int .i64 x.f6], [.int .u32 x.f7], rfl, rfl, rfl⟩⟩⟩⟩⟩⟩⟩
theorem k71_mkM (w : World) (base : Nat) (ok : Nat → Prop) (x : S71) {v1 : Value} (g1 : (Kd.int .i64).R 3 w base ok v1 x.f1) {v2 : Value} (g2 : (Kd.int .i64).R 3 w base ok v2 x.f2) : k71.M w base ok x [.int .i64 x.f0, v1, v2, .int .u32 x.f3, .int .i64 x.f4, .int .i64 x.f5, .int .i64 x.f6, .int .u32 x.f7] := ⟨[.int .i64 x.f0], [v1, v2, .int .u32 x.f3, .int .i64 x.f4, .int .i64 x.f5, .int .i64 x.f6, .int .u32 x.f7], rfl, rfl, ⟨[v1], [v2, .int .u32 x.f3, .int .i64 x.f4, .int .i64 x.f5, .int .i64 x.f6, .int .u32 x.f7], rfl, ⟨v1, rfl, g1⟩, ⟨[v2], [.int .u32 x.f3, .int .i64 x.f4, .int .i64 x.f5, .int .i64 x.f6, .int .u32 x.f7], rfl, ⟨v2, rfl, g2⟩, ⟨[.int .u32 x.f3], [.int .i64 x.f4, .int .i64 x.f5, .int .i64 x.f6, .int .u32 x.f7], rfl, rfl, ⟨[.int .i64 x.f4], [.int .i64 x.f5, .int .i64 x.f6, .int .u32 x.f7], rfl, rfl, ⟨[.int .i64 x.f5], [.int .i64 x.f6, .int .u32 x.f7], rfl, rfl, ⟨[.int .i64 x.f6], [.int .u32 x.f7], rfl, rfl, rfl⟩⟩⟩⟩⟩⟩⟩
def rd_T71 (xs : List S71) (i : Int) : S71 := xs.getD i.toNat z71
theorem at_T71 {w : World} {A : Option Addr} {n : Nat} {xs : List S71} (h : Kd.C k71 w A n xs) (i : Int) (h0 : 0 ≤ i) (h1 : i < n) : ∃ ad A1 c1 A2 c2, A = some ad ∧ w.cell? (ad.add (i.toNat * 8)) = some (.int .i64 (rd_T71 xs i).f0) ∧ w.cell? ⟨(ad.add (i.toNat * 8)).block, (ad.add (i.toNat * 8)).off + 1, none⟩ = some (.slice A1 (rd_T71 xs i).f1.length c1) ∧ w.cell? ⟨(ad.add (i.toNat * 8)).block, (ad.add (i.toNat * 8)).off + 2, none⟩ = some (.slice A2 (rd_T71 xs i).f2.length c2) ∧ w.cell? ⟨(ad.add (i.toNat * 8)).block, (ad.add (i.toNat * 8)).off + 3, none⟩ = some (.int .u32 (rd_T71 xs i).f3) ∧ w.cell? ⟨(ad.add (i.toNat * 8)).block, (ad.add (i.toNat * 8)).off + 4, none⟩ = some (.int .i64 (rd_T71 xs i).f4) ∧ w.cell? ⟨(ad.add (i.toNat * 8)).block, (ad.add (i.toNat * 8)).off + 5, none⟩ = some (.int .i64 (rd_T71 xs i).f5) ∧ w.cell? ⟨(ad.add (i.toNat * 8)).block, (ad.add (i.toNat * 8)).off + 6, none⟩ = some (.int .i64 (rd_T71 xs i).f6) ∧ w.cell? ⟨(ad.add (i.toNat * 8)).block, (ad.add (i.toNat * 8)).off + 7, none⟩ = some (.int .u32 (rd_T71 xs i).f7) ∧ (rd_T71 xs i).f1.length ≤ c1 ∧ (Kd.int .i64).C w A1 (rd_T71 xs i).f1.length (rd_T71 xs i).f1 ∧ (rd_T71 xs i).f2.length ≤ c2 ∧ (Kd.int .i64).C w A2 (rd_T71 xs i).f2.length (rd_T71 xs i).f2 := by
 obtain ⟨ad, c, e, _, hK, hc0⟩ := Kd.C_get h z71 i h0 h1
 have hc : ∀ j u, c[j]? = some u → w.cell? (ad.add (i.toNat * 8 + j)) = some u := hc0
 obtain ⟨A1, c1, A2, c2, rfl, l1, g1, l2, g2⟩ := k71_open hK
 exact ⟨ad, A1, c1, A2, c2, e, hc 0 _ rfl, by rw [← add_field _ _ 1 (by omega)]; exact hc 1 _ rfl, by rw [← add_field _ _ 2 (by omega)]; exact hc 2 _ rfl, by rw [← add_field _ _ 3 (by omega)]; exact hc 3 _ rfl, by rw [← add_field _ _ 4 (by omega)]; exact hc 4 _ rfl, by rw [← add_field _ _ 5 (by omega)]; exact hc 5 _ rfl, by rw [← add_field _ _ 6 (by omega)]; exact hc 6 _ rfl, by rw [← add_field _ _ 7 (by omega)]; exact hc 7 _ rfl, l1, g1, l2, g2⟩

/-! #### struct type 49 -/
structure S49 where
 f0 : Int
 f1 : (List Int)
 f2 : (List Int)
 f3 : Int
 f4 : Int
 f5 : Int
 f6 : Int
 f7 : Int
def z49 : S49 := ⟨(0 : Int), ([] : List Int), ([] : List Int), (0 : Int), (0 : Int), (0 : Int), (0 : Int), (0 : Int)⟩
def k49i : Kd S49 := Kd.iso (Kd.pair (Kd.int .i64) (Kd.pair (Kd.slice 3 (Kd.int .i64)) (Kd.pair (Kd.slice 3 (Kd.int .i64)) (Kd.pair (Kd.int .u32) (Kd.pair (Kd.int .i64) (Kd.pair (Kd.int .i64) (Kd.pair (Kd.int .i64) (Kd.int .u32)))))))) (fun x : S49 => (x.f0, x.f1, x.f2, x.f3, x.f4, x.f5, x.f6, x.f7))
theorem k49i_mkM (w : World) (base : Nat) (ok : Nat → Prop) (x : S49) {v1 : Value} (g1 : (Kd.int .i64).R 3 w base ok v1 x.f1) {v2 : Value} (g2 : (Kd.int .i64).R 3 w base ok v2 x.f2) : k49i.M w base ok x [.int .i64 x.f0, v1, v2, .int .u32 x.f3, .int .i64 x.f4, .int .i64 x.f5, .int .i64 x.f6, .int .u32 x.f7] := ⟨[.int .i64 x.f0], [v1, v2, .int .u32 x.f3, .int .i64 x.f4, .int .i64 x.f5, .int .i64 x.f6, .int .u32 x.f7], rfl, rfl, ⟨[v1], [v2, .int .u32 x.f3, .int .i64 x.f4, .int .i64 x.f5, .int .i64 x.f6, .int .u32 x.f7], rfl, ⟨v1, rfl, g1⟩, ⟨[v2], [.int .u32 x.f3, .int .i64 x.f4, .int .i64 x.f5, .int .i64 x.f6, .int .u32 x.f7], rfl, ⟨v2, rfl, g2⟩, ⟨[.int .u32 x.f3], [.int .i64 x.f4, .int .i64 x.f5, .int .i64 x.f6, .int .u32 x.f7], rfl, rfl, ⟨[.int .i64 x.f4], [.int .i64 x.f5, .int .i64 x.f6, .int .u32 x.f7], rfl, rfl, ⟨[.int .i64 x.f5], [.int .i64 x.f6, .int .u32 x.f7], rfl, rfl, ⟨[.int .i64 x.f6], [.int .u32 x.f7], rfl, rfl, rfl⟩⟩⟩⟩⟩⟩⟩
def k49 : Kd S49 where
 sz := k49i.sz
 E := [3]
 K := k49i.K
 M := fun w base ok x cs => ∃ v1 v2 : Value, cs = [.int .i64 x.f0, v1, v2, .int .u32 x.f3, .int .i64 x.f4, .int .i64 x.f5, .int .i64 x.f6, .int .u32 x.f7] ∧ (Kd.int .i64).R 3 w base (fun k_ => ok k_ ∧ some k_ ≠ v2.ownBlock) v1 x.f1 ∧ (Kd.int .i64).R 3 w base (fun k_ => ok k_ ∧ some k_ ≠ v1.ownBlock) v2 x.f2
 K_len := k49i.K_len
 K_one := k49i.K_one
 K_below := k49i.K_below
 K_of_M := by
  rintro w base ok x cs ⟨v1, v2, rfl, g1, g2⟩
  exact k49i.K_of_M (k49i_mkM w base ok x (Kd.R_mono g1 (fun _ h => h.1)) (Kd.R_mono g2 (fun _ h => h.1)))
 M_mono := by
  rintro w base ok ok' x cs hok ⟨v1, v2, rfl, g1, g2⟩
  exact ⟨v1, v2, rfl, Kd.R_mono g1 (fun k h => ⟨hok k h.1, h.2⟩), Kd.R_mono g2 (fun k h => ⟨hok k h.1, h.2⟩)⟩
 M_bound := by
  rintro w base ok x cs ⟨v1, v2, rfl, g1, g2⟩
  exact ⟨v1, v2, rfl, Kd.R_mono (Kd.R_bound g1) (fun k h => ⟨⟨h.1.1, h.2⟩, h.1.2⟩), Kd.R_mono (Kd.R_bound g2) (fun k h => ⟨⟨h.1.1, h.2⟩, h.1.2⟩)⟩
 M_move := by
  rintro w w1 base ok x cs hm ⟨v1, v2, rfl, g1, g2⟩
  exact ⟨v1, v2, rfl, Kd.R_move g1 (fun k h => hm k h.1), Kd.R_move g2 (fun k h => hm k h.1)⟩
 M_lower := by
  rintro w base base' ok x cs hb ⟨v1, v2, rfl, g1, g2⟩
  exact ⟨v1, v2, rfl, Kd.R_lower g1 hb, Kd.R_lower g2 hb⟩
theorem k49_open {w : World} {x : S49} {cs : List Value} (h : k49.K w x cs) : ∃ A1 c1 A2 c2, cs = [.int .i64 x.f0, .slice A1 x.f1.length c1, .slice A2 x.f2.length c2, .int .u32 x.f3, .int .i64 x.f4, .int .i64 x.f5, .int .i64 x.f6, .int .u32 x.f7] ∧ x.f1.length ≤ c1 ∧ (Kd.int .i64).C w A1 x.f1.length x.f1 ∧ x.f2.length ≤ c2 ∧ (Kd.int .i64).C w A2 x.f2.length x.f2 := by
 obtain ⟨_, _, rfl, rfl, ⟨_, _, rfl, ⟨A1, c1, rfl, l1, g1⟩, ⟨_, _, rfl, ⟨A2, c2, rfl, l2, g2⟩, ⟨_, _, rfl, rfl, ⟨_, _, rfl, rfl, ⟨_, _, rfl, rfl, ⟨_, _, rfl, rfl, rfl⟩⟩⟩⟩⟩⟩⟩ := h
 exact ⟨A1, c1, A2, c2, rfl, l1, g1, l2, g2⟩
theorem k49_openM {w : World} {base : Nat} {ok : Nat → Prop} {x : S49} {cs : List Value} (h : k49.M w base ok x cs) : ∃ v1 v2, cs = [.int .i64 x.f0, v1, v2, .int .u32 x.f3, .int .i64 x.f4, .int .i64 x.f5, .int .i64 x.f6, .int .u32 x.f7] ∧ (Kd.int .i64).R 3 w base ok v1 x.f1 ∧ (Kd.int .i64).R 3 w base ok v2 x.f2 := by
 obtain ⟨v1, v2, rfl, g1, g2⟩ := h
 exact ⟨v1, v2, rfl, Kd.R_mono g1 (fun _ h => h.1), Kd.R_mono g2 (fun _ h => h.1)⟩
theorem k49_openS {w : World} {base : Nat} {ok : Nat → Prop} {x : S49} {cs : List Value} (h : k49.M w base ok x cs) : ∃ v1 v2 : Value, cs = [.int .i64 x.f0, v1, v2, .int .u32 x.f3, .int .i64 x.f4, .int .i64 x.f5, .int .i64 x.f6, .int .u32 x.f7] ∧ (Kd.int .i64).R 3 w base (fun k_ => ok k_ ∧ some k_ ≠ v2.ownBlock) v1 x.f1 ∧ (Kd.int .i64).R 3 w base (fun k_ => ok k_ ∧ some k_ ≠ v1.ownBlock) v2 x.f2 := h
theorem sep_of {w : World} {base : Nat} {u v : Value} {xs : List Int} (h : Aside0 ((Kd.int .i64).R 3 w base (fun k_ => some k_ ≠ (u : Value).ownBlock) v xs)) : ∀ k, v.ownBlock = some k → u.ownBlock ≠ some k := fun k e e2 => h.out.1 k e e2.symm
theorem sep_none : ∀ k, (Value.slice none 0 0).ownBlock = some k → (Value.slice none 0 0).ownBlock ≠ some k := fun k e => by simp [Value.ownBlock] at e
theorem k49_mk (w : World) (x : S49) {A1 : Option Addr} {c1 : Nat} (l1 : x.f1.length ≤ c1) (g1 : (Kd.int .i64).C w A1 x.f1.length x.f1) {A2 : Option Addr} {c2 : Nat} (l2 : x.f2.length ≤ c2) (g2 : (Kd.int .i64).C w A2 x.f2.length x.f2) : k49.K w x [.int .i64 x.f0, .slice A1 x.f1.length c1, .slice A2 x.f2.length c2, .int .u32 x.f3, .int .i64 x.f4, .int .i64 x.f5, .int .i64 x.f6, .int .u32 x.f7] := ⟨[.int .i64 x.f0], [.slice A1 x.f1.length c1, .slice A2 x.f2.length c2, .int .u32 x.f3, .int .i64 x.f4, .int .i64 x.f5, .int .i64 x.f6, .int .u32 x.f7], rfl, rfl, ⟨[.slice A1 x.f1.length c1], [.slice A2 x.f2.length c2, .int .u32 x.f3, .int .i64 x.f4, .int .i64 x.f5, .int .i64 x.f6, .int .u32 x.f7], rfl, ⟨A1, c1, rfl, l1, g1⟩, ⟨[.slice A2 x.f2.length c2], [.int .u32 x.f3, .int .i64 x.f4, .int .i64 x.f5, .int .i64 x.f6, .int .u32 x.f7], rfl, ⟨A2, c2, rfl, l2, g2⟩, ⟨[.int .u32 x.f3], [.int .i64 x.f4, .int .i64 x.f5, .int .i64 x.f6, .int .u32 x.f7], rfl, rfl, ⟨[.int .i64 x.f4], [.int .i64 x.f5, .int .i64 x.f6, .int .u32 x.f7], rfl, rfl, ⟨[.int .i64 x.f5], [.int .i64 x.f6, .int .u32 x.f7], rfl, rfl, ⟨[.int .i64 x.f6], [.int .u32 x.f7], rfl, rfl, rfl⟩⟩⟩⟩⟩⟩⟩
theorem k49_mkM (w : World) (base : Nat) (ok : Nat → Prop) (x : S49) {v1 : Value} (g1 : (Kd.int .i64).R 3 w base ok v1 x.f1) {v2 : Value} (g2 : (Kd.int .i64).R 3 w base ok v2 x.f2) (hne : ∀ k_, v1.ownBlock = some k_ → v2.ownBlock ≠ some k_ := by first | exact sep_none | exact sep_of (by assumption)) : k49.M w base ok x [.int .i64 x.f0, v1, v2, .int .u32 x.f3, .int .i64 x.f4, .int .i64 x.f5, .int .i64 x.f6, .int .u32 x.f7] := ⟨v1, v2, rfl, Kd.R_mono (Kd.R_tight rfl g1) (fun k h => ⟨g1.1 k h.symm, fun e => hne k h.symm e.symm⟩), Kd.R_mono (Kd.R_tight rfl g2) (fun k h => ⟨g2.1 k h.symm, fun e => hne k e.symm h.symm⟩)⟩
def rd_T49 (xs : List S49) (i : Int) : S49 := xs.getD i.toNat z49
theorem at_T49 {w : World} {A : Option Addr} {n : Nat} {xs : List S49} (h : Kd.C k49 w A n xs) (i : Int) (h0 : 0 ≤ i) (h1 : i < n) : ∃ ad A1 c1 A2 c2, A = some ad ∧ w.cell? (ad.add (i.toNat * 8)) = some (.int .i64 (rd_T49 xs i).f0) ∧ w.cell? ⟨(ad.add (i.toNat * 8)).block, (ad.add (i.toNat * 8)).off + 1, none⟩ = some (.slice A1 (rd_T49 xs i).f1.length c1) ∧ w.cell? ⟨(ad.add (i.toNat * 8)).block, (ad.add (i.toNat * 8)).off + 2, none⟩ = some (.slice A2 (rd_T49 xs i).f2.length c2) ∧ w.cell? ⟨(ad.add (i.toNat * 8)).block, (ad.add (i.toNat * 8)).off + 3, none⟩ = some (.int .u32 (rd_T49 xs i).f3) ∧ w.cell? ⟨(ad.add (i.toNat * 8)).block, (ad.add (i.toNat * 8)).off + 4, none⟩ = some (.int .i64 (rd_T49 xs i).f4) ∧ w.cell? ⟨(ad.add (i.toNat * 8)).block, (ad.add (i.toNat * 8)).off + 5, none⟩ = some (.int .i64 (rd_T49 xs i).f5) ∧ w.cell? ⟨(ad.add (i.toNat * 8)).block, (ad.add (i.toNat * 8)).off + 6, none⟩ = some (.int .i64 (rd_T49 xs i).f6) ∧ w.cell? ⟨(ad.add (i.toNat * 8)).block, (ad.add (i.toNat * 8)).off + 7, none⟩ = some (.int .u32 (rd_T49 xs i).f7) ∧ (rd_T49 xs i).f1.length ≤ c1 ∧ (Kd.int .i64).C w A1 (rd_T49 xs i).f1.length (rd_T49 xs i).f1 ∧ (rd_T49 xs i).f2.length ≤ c2 ∧ (Kd.int .i64).C w A2 (rd_T49 xs i).f2.length (rd_T49 xs i).f2 := by
 obtain ⟨ad, c, e, _, hK, hc0⟩ := Kd.C_get h z49 i h0 h1
 have hc : ∀ j u, c[j]? = some u → w.cell? (ad.add (i.toNat * 8 + j)) = some u := hc0
 obtain ⟨A1, c1, A2, c2, rfl, l1, g1, l2, g2⟩ := k49_open hK
 exact ⟨ad, A1, c1, A2, c2, e, hc 0 _ rfl, by rw [← add_field _ _ 1 (by omega)]; exact hc 1 _ rfl, by rw [← add_field _ _ 2 (by omega)]; exact hc 2 _ rfl, by rw [← add_field _ _ 3 (by omega)]; exact hc 3 _ rfl, by rw [← add_field _ _ 4 (by omega)]; exact hc 4 _ rfl, by rw [← add_field _ _ 5 (by omega)]; exact hc 5 _ rfl, by rw [← add_field _ _ 6 (by omega)]; exact hc 6 _ rfl, by rw [← add_field _ _ 7 (by omega)]; exact hc 7 _ rfl, l1, g1, l2, g2⟩

/-! #### struct type 55 -/
structure S55 where
 f0 : Int
 f1 : Int
def z55 : S55 := ⟨(0 : Int), (0 : Int)⟩
def k55 : Kd S55 := Kd.iso (Kd.pair (Kd.int .i64) (Kd.int .i64)) (fun x : S55 => (x.f0, x.f1))
theorem k55_open {w : World} {x : S55} {cs : List Value} (h : k55.K w x cs) : cs = [.int .i64 x.f0, .int .i64 x.f1] := by
 obtain ⟨_, _, rfl, rfl, rfl⟩ := h
 exact rfl
theorem k55_openM {w : World} {base : Nat} {ok : Nat → Prop} {x : S55} {cs : List Value} (h : k55.M w base ok x cs) : cs = [.int .i64 x.f0, .int .i64 x.f1] := by
 obtain ⟨_, _, rfl, rfl, rfl⟩ := h
 exact rfl
theorem k55_mk (w : World) (x : S55)  : k55.K w x [.int .i64 x.f0, .int .i64 x.f1] := ⟨[.int .i64 x.f0], [.int .i64 x.f1], rfl, rfl, rfl⟩
theorem k55_mkM (w : World) (base : Nat) (ok : Nat → Prop) (x : S55)  : k55.M w base ok x [.int .i64 x.f0, .int .i64 x.f1] := ⟨[.int .i64 x.f0], [.int .i64 x.f1], rfl, rfl, rfl⟩
def rd_T55 (xs : List S55) (i : Int) : S55 := xs.getD i.toNat z55
theorem at_T55 {w : World} {A : Option Addr} {n : Nat} {xs : List S55} (h : Kd.C k55 w A n xs) (i : Int) (h0 : 0 ≤ i) (h1 : i < n) : ∃ ad , A = some ad ∧ w.cell? (ad.add (i.toNat * 2)) = some (.int .i64 (rd_T55 xs i).f0) ∧ w.cell? ⟨(ad.add (i.toNat * 2)).block, (ad.add (i.toNat * 2)).off + 1, none⟩ = some (.int .i64 (rd_T55 xs i).f1) := by
 obtain ⟨ad, c, e, _, hK, hc0⟩ := Kd.C_get h z55 i h0 h1
 have hc : ∀ j u, c[j]? = some u → w.cell? (ad.add (i.toNat * 2 + j)) = some u := hc0
 obtain rfl := k55_open hK
 exact ⟨ad, e, hc 0 _ rfl, by rw [← add_field _ _ 1 (by omega)]; exact hc 1 _ rfl⟩

end Go.Proofs.YtobboonnfocalaaGreatDoor.PG1
namespace Go.Proofs.YtobboonnfocalaaGreatDoor.PG1
open Go.RowKit Go.Proofs.YtobboonnfocalaaGreatDoorW.PrintWords Go.Proofs.YtobboonnfocalaaGreatDoorW.PrintLast Go.Proofs.YtobboonnfocalaaGreatDoorW.PrintMore Go.Proofs.YtobboonnfocalaaGreatDoor.T
attribute [local go_sem] max2_int min2_int max_two min_two max_three min_three max_four min_four   -- for this text's walks alone
set_option linter.unusedVariables false
set_option linter.unusedSimpArgs false

/-! ### laws_szUint32S: function 31 -/
def laws_szUint32S.f (l0 : List Int) (a1 : Int) : Option (Int) := if (wrap64 (a1 - (l0.length : Int))) < 0 then (some (-1)) else (some (wrap64 (a1 - (l0.length : Int))))
set_option maxHeartbeats 8000000 in
set_option maxRecDepth 100000 in
theorem laws_szUint32S.calls (A0 : Option Addr) (c0 : Nat) (l0 : List Int) (a1 : Int) (r : Int) (w : World) (hr0 : Kd.C (Kd.int .u32) w A0 l0.length l0) (hc0 : l0.length ≤ c0) (h : laws_szUint32S.f l0 a1 = some r) :
  Calls Tryz.prog 31 #[.slice A0 l0.length c0, .int .i64 a1] w fun e w' => e = .returned (.int .i64 r) ∧ Drawn0 w w' := by
 have HR0 := Aside0.mk hr0
 have HC0 := Aside0.mk hc0
 clear hr0 hc0
 unfold laws_szUint32S.f at h
 have H := h
 clear h
 replace H := ilt H
 rcases H with ⟨c3b0, H⟩ | ⟨c3b0, H⟩
 ·obtain rfl := Option.some.inj H
  go_enter Tryz.func31, Tryz.ntmps31
  go_wp2
  go_ret
  exact ⟨ev, dr⟩
 ·obtain rfl := Option.some.inj H
  go_enter Tryz.func31, Tryz.ntmps31
  go_wp2
  go_ret
  exact ⟨ev, dr⟩

/-! ### laws_szMem: function 13 -/
def laws_szMem.f (l0_0 : List Int) (a1 : Int) : Option (Int) := (laws_szUint32S.f l0_0 a1).bind fun t102 => (if t102 < 0 then (some (-1)) else (some t102))
set_option maxHeartbeats 8000000 in
set_option maxRecDepth 100000 in
theorem laws_szMem.calls (A0_0 : Option Addr) (c0_0 : Nat) (l0_0 : List Int) (a1 : Int) (r : Int) (w : World) (hr0_0 : Kd.C (Kd.int .u32) w A0_0 l0_0.length l0_0) (hc0_0 : l0_0.length ≤ c0_0) (h : laws_szMem.f l0_0 a1 = some r) :
  Calls Tryz.prog 13 #[.agg #[.slice A0_0 l0_0.length c0_0], .int .i64 a1] w fun e w' => e = .returned (.int .i64 r) ∧ Below w.heap.size w w' := by
 have hu24 := Tryz.underlying24
 have HR0_0 := Aside0.mk hr0_0
 have HC0_0 := Aside0.mk hc0_0
 clear hr0_0 hc0_0
 have HB := Aside0.mk (Below.refl w.heap.size w)
 unfold laws_szMem.f at h
 have H := h
 clear h
 replace H := bn H
 obtain ⟨t102, A3, H⟩ := H
 try dsimp only at H
 have HU4 := Aside0.mk H
 clear H
 go_enter Tryz.func13, Tryz.ntmps13
 go_upto_if 10 with (first | ((with_reducible refine gd 2 ?_); refine bx 2 24 #[.slice A0_0 l0_0.length c0_0] ?_; clear HB; intro gb101 w5 hg BK101 hb GE101 HB; clear hb hg; have z6_0 := ca1 BK101; have f6_0 := blk_frozen BK101.out 0) | ((with_reducible refine gf 31 ?_); refine gc Tryz.func31 (some 8) (laws_szUint32S.calls A0_0 c0_0 _ _ _ _ (cb HR0_0) HC0_0.out A3.out) ?_; rintro e w' ⟨rfl, ⟨nd, rfl⟩⟩; refine ⟨_, rfl, ?_⟩))
 (try refine ap ?_)
 have H := HU4.out
 clear HU4
 replace H := ilt H
 rcases H with ⟨c7b0, H⟩ | ⟨c7b0, H⟩
 ·(first | rw [c7b0] | (simp only [i64_w, i32_w]; rw [c7b0]) | (simp only [c7b2, Bool.not_true, Bool.not_false]) | (simp only [c7b1, Bool.not_true, Bool.not_false]) | skip)
  obtain rfl := Option.some.inj H
  go_wp2
  go_ret
  exact ⟨rt, bw⟩
 ·(first | rw [c7b0] | (simp only [i64_w, i32_w]; rw [c7b0]) | (simp only [c7b2, Bool.not_true, Bool.not_false]) | (simp only [c7b1, Bool.not_true, Bool.not_false]) | skip)
  obtain rfl := Option.some.inj H
  go_wp2
  go_ret
  exact ⟨rt, bw⟩

/-! ### laws_szIntS: function 54 -/
def laws_szIntS.f (l0 : List Int) (a1 : Int) : Option (Int) := if (wrap64 (a1 - (l0.length : Int))) < 0 then (some (-1)) else (some (wrap64 (a1 - (l0.length : Int))))
set_option maxHeartbeats 8000000 in
set_option maxRecDepth 100000 in
theorem laws_szIntS.calls (A0 : Option Addr) (c0 : Nat) (l0 : List Int) (a1 : Int) (r : Int) (w : World) (hr0 : Kd.C (Kd.int .i64) w A0 l0.length l0) (hc0 : l0.length ≤ c0) (h : laws_szIntS.f l0 a1 = some r) :
  Calls Tryz.prog 54 #[.slice A0 l0.length c0, .int .i64 a1] w fun e w' => e = .returned (.int .i64 r) ∧ Drawn0 w w' := by
 have HR0 := Aside0.mk hr0
 have HC0 := Aside0.mk hc0
 clear hr0 hc0
 unfold laws_szIntS.f at h
 have H := h
 clear h
 replace H := ilt H
 rcases H with ⟨c3b0, H⟩ | ⟨c3b0, H⟩
 ·obtain rfl := Option.some.inj H
  go_enter Tryz.func54, Tryz.ntmps54
  go_wp2
  go_ret
  exact ⟨ev, dr⟩
 ·obtain rfl := Option.some.inj H
  go_enter Tryz.func54, Tryz.ntmps54
  go_wp2
  go_ret
  exact ⟨ev, dr⟩

/-! ### laws_szWarp: function 32 -/
def laws_szWarp.f (a0_0 : Int) (l0_1 : List Int) (l0_2 : List Int) (a0_3 : Int) (a0_4 : Int) (a0_5 : Int) (a0_6 : Int) (a0_7 : Int) (a1 : Int) : Option (Int) := (laws_szIntS.f l0_1 a1).bind fun t104 => (if t104 < 0 then (some (-1)) else ((laws_szIntS.f l0_2 t104).bind fun t105 => (if t105 < 0 then (some (-1)) else (some t105))))
set_option maxHeartbeats 8000000 in
set_option maxRecDepth 100000 in
theorem laws_szWarp.calls (a0_0 : Int) (A0_1 : Option Addr) (c0_1 : Nat) (l0_1 : List Int) (A0_2 : Option Addr) (c0_2 : Nat) (l0_2 : List Int) (a0_3 : Int) (a0_4 : Int) (a0_5 : Int) (a0_6 : Int) (a0_7 : Int) (a1 : Int) (r : Int) (w : World) (hr0_1 : Kd.C (Kd.int .i64) w A0_1 l0_1.length l0_1) (hc0_1 : l0_1.length ≤ c0_1) (hr0_2 : Kd.C (Kd.int .i64) w A0_2 l0_2.length l0_2) (hc0_2 : l0_2.length ≤ c0_2) (h : laws_szWarp.f a0_0 l0_1 l0_2 a0_3 a0_4 a0_5 a0_6 a0_7 a1 = some r) :
  Calls Tryz.prog 32 #[.agg #[.int .i64 a0_0, .slice A0_1 l0_1.length c0_1, .slice A0_2 l0_2.length c0_2, .int .u32 a0_3, .int .i64 a0_4, .int .i64 a0_5, .int .i64 a0_6, .int .u32 a0_7], .int .i64 a1] w fun e w' => e = .returned (.int .i64 r) ∧ Below w.heap.size w w' := by
 have hu71 := Tryz.underlying71
 have HR0_1 := Aside0.mk hr0_1
 have HC0_1 := Aside0.mk hc0_1
 clear hr0_1 hc0_1
 have HR0_2 := Aside0.mk hr0_2
 have HC0_2 := Aside0.mk hc0_2
 clear hr0_2 hc0_2
 have HB := Aside0.mk (Below.refl w.heap.size w)
 unfold laws_szWarp.f at h
 have H := h
 clear h
 replace H := bn H
 obtain ⟨t104, A3, H⟩ := H
 try dsimp only at H
 have HU4 := Aside0.mk H
 clear H
 go_enter Tryz.func32, Tryz.ntmps32
 go_upto_if 10 with (first | ((with_reducible refine gd 2 ?_); refine bx 2 71 #[.int .i64 a0_0, .slice A0_1 l0_1.length c0_1, .slice A0_2 l0_2.length c0_2, .int .u32 a0_3, .int .i64 a0_4, .int .i64 a0_5, .int .i64 a0_6, .int .u32 a0_7] ?_; clear HB; intro gb103 w5 hg BK103 hb GE103 HB; clear hb hg; obtain ⟨z6_0, z6_1, z6_2, z6_3, z6_4, z6_5, z6_6, z6_7⟩ := ca8 BK103; obtain ⟨f6_0, f6_1, f6_2, f6_3, f6_4, f6_5, f6_6, f6_7⟩ := fa8 BK103) | ((with_reducible refine gf 54 ?_); refine gc Tryz.func54 (some 8) (laws_szIntS.calls A0_1 c0_1 _ _ _ _ (cb HR0_1) HC0_1.out A3.out) ?_; rintro e w' ⟨rfl, ⟨nd, rfl⟩⟩; refine ⟨_, rfl, ?_⟩))
 (try refine ap ?_)
 have H := HU4.out
 clear HU4
 replace H := ilt H
 rcases H with ⟨c7b0, H⟩ | ⟨c7b0, H⟩
 ·(first | rw [c7b0] | (simp only [i64_w, i32_w]; rw [c7b0]) | (simp only [c7b2, Bool.not_true, Bool.not_false]) | (simp only [c7b1, Bool.not_true, Bool.not_false]) | skip)
  obtain rfl := Option.some.inj H
  go_wp2
  go_ret
  exact ⟨rt, bw⟩
 ·(first | rw [c7b0] | (simp only [i64_w, i32_w]; rw [c7b0]) | (simp only [c7b2, Bool.not_true, Bool.not_false]) | (simp only [c7b1, Bool.not_true, Bool.not_false]) | skip)
  replace H := bn H
  obtain ⟨t105, A8, H⟩ := H
  try dsimp only at H
  have HU9 := Aside0.mk H
  clear H
  obtain ⟨z10_0, z10_1, z10_2, z10_3, z10_4, z10_5, z10_6, z10_7⟩ := ca8 BK103
  obtain ⟨f10_0, f10_1, f10_2, f10_3, f10_4, f10_5, f10_6, f10_7⟩ := fa8 BK103
  go_upto_if 16 with (first | ((with_reducible refine gf 54 ?_); refine gc Tryz.func54 (some 14) (laws_szIntS.calls A0_2 c0_2 _ _ _ _ (cb HR0_2) HC0_2.out A8.out) ?_; rintro e w' ⟨rfl, ⟨nd, rfl⟩⟩; refine ⟨_, rfl, ?_⟩))
  (try refine ap ?_)
  have H := HU9.out
  clear HU9
  replace H := ilt H
  rcases H with ⟨c11b0, H⟩ | ⟨c11b0, H⟩
  ·(first | rw [c11b0] | (simp only [i64_w, i32_w]; rw [c11b0]) | (simp only [c11b2, Bool.not_true, Bool.not_false]) | (simp only [c11b1, Bool.not_true, Bool.not_false]) | skip)
   obtain rfl := Option.some.inj H
   go_wp2
   go_ret
   exact ⟨rt, bw⟩
  ·(first | rw [c11b0] | (simp only [i64_w, i32_w]; rw [c11b0]) | (simp only [c11b2, Bool.not_true, Bool.not_false]) | (simp only [c11b1, Bool.not_true, Bool.not_false]) | skip)
   obtain rfl := Option.some.inj H
   go_wp2
   go_ret
   exact ⟨rt, bw⟩

/-! ### laws_szWarpS: function 14 -/
def laws_szWarpS.l0 : Nat → List (S71) → Int → Int → Option (Int)
 | 0, _, _, _ => none
 | k + 1, x0, x1, x5 => if x5 < (x0.length : Int) then (if 0 ≤ x5 then ((laws_szWarp.f ((rd_T71 x0 x5).f0) ((rd_T71 x0 x5).f1) ((rd_T71 x0 x5).f2) ((rd_T71 x0 x5).f3) ((rd_T71 x0 x5).f4) ((rd_T71 x0 x5).f5) ((rd_T71 x0 x5).f6) ((rd_T71 x0 x5).f7) x1).bind fun t107 => (if t107 < 0 then (some (-1)) else (laws_szWarpS.l0 k x0 t107 (wrap64 (x5 + 1))))) else (none)) else (some x1)
def laws_szWarpS.f (k : Nat) (l0 : List (S71)) (a1 : Int) : Option (Int) := if (wrap64 (a1 - (l0.length : Int))) < 0 then (some (-1)) else (laws_szWarpS.l0 k l0 (wrap64 (a1 - (l0.length : Int))) 0)
theorem laws_szWarpS.mono_l : ∀ k, (∀ y0 y1 y2, LeO (laws_szWarpS.l0 k y0 y1 y2) (laws_szWarpS.l0 (k + 1) y0 y1 y2))
 | 0 => fun _ _ _ r h => by simp [laws_szWarpS.l0] at h
 | k + 1 => by
  have ih0 := laws_szWarpS.mono_l k
  ·intro y0 y1 y2
   unfold laws_szWarpS.l0
   repeat' first
    | (with_reducible first | exact ih0 .. | exact LeO.refl _ | exact LeO.none _ | refine LeO.ite ?_ ?_ | refine LeO.bind ?_ (fun _ => ?_))
    | exact LeO.none _ | refine LeO.ite ?_ ?_ | refine LeO.bind ?_ (fun _ => ?_)
theorem laws_szWarpS.mono : ∀ a0 a1 k, LeO (laws_szWarpS.f k a0 a1) (laws_szWarpS.f (k + 1) a0 a1) := by
 intro a0 a1 k
 have ih0 := laws_szWarpS.mono_l k
 unfold laws_szWarpS.f
 repeat' first
  | (with_reducible first | exact ih0 .. | exact LeO.refl _ | exact LeO.none _ | refine LeO.ite ?_ ?_ | refine LeO.bind ?_ (fun _ => ?_))
  | exact LeO.none _ | refine LeO.ite ?_ ?_ | refine LeO.bind ?_ (fun _ => ?_)
set_option maxHeartbeats 8000000 in
set_option maxRecDepth 100000 in
theorem laws_szWarpS.calls (k : Nat) (A0 : Option Addr) (c0 : Nat) (l0 : List (S71)) (a1 : Int) (r : Int) (w : World) (hr0 : Kd.C k71 w A0 l0.length l0) (hc0 : l0.length ≤ c0) (h : laws_szWarpS.f k l0 a1 = some r) :
  Calls Tryz.prog 14 #[.slice A0 l0.length c0, .int .i64 a1] w fun e w' => e = .returned (.int .i64 r) ∧ Below w.heap.size w w' := by
 have hu71 := Tryz.underlying71
 have HR0 := Aside0.mk hr0
 have HC0 := Aside0.mk hc0
 clear hr0 hc0
 have HB := Aside0.mk (Below.refl w.heap.size w)
 unfold laws_szWarpS.f at h
 have H := h
 clear h
 replace H := ilt H
 rcases H with ⟨c3b0, H⟩ | ⟨c3b0, H⟩
 ·obtain rfl := Option.some.inj H
  go_enter Tryz.func14, Tryz.ntmps14
  go_wp2
  go_ret
  exact ⟨rt, bw⟩
 ·have H' := Aside0.mk H
  clear H
  go_enter Tryz.func14, Tryz.ntmps14
  go_wp2
  go_loopg [1, 5] k (fun kq v1 v5 w' => ∃ (x1_1 : Int) (x5_1 : Int), v1 = .int .i64 x1_1 ∧ v5 = .int .i64 x5_1 ∧ Aside0 (laws_szWarpS.l0 kq l0 x1_1 x5_1 = some r) ∧ Aside0 (kq ≤ k) ∧ Aside0 (Below w.heap.size w w'))
  case atStart => exact ⟨(wrap64 (a1 - (l0.length : Int))), (0), ev, ev, H', ⟨Nat.le_refl _⟩, ⟨bw⟩⟩
  case round =>
   clear H'
   try clear c3
   try clear c3b0
   obtain ⟨x1_1, x5_1, rfl, rfl, HA, HK1, HB⟩ := hrel
   cases gk with
   | zero => exact absurd HA.out (by simp [laws_szWarpS.l0])
   | succ k1 =>
    have H := HA.out
    clear HA
    simp only [laws_szWarpS.l0] at H
    replace H := ilt H
    rcases H with ⟨c4b0, H⟩ | ⟨c4b0, H⟩
    ·by_cases c5 : 0 ≤ x5_1
     ·rw [if_pos c5] at H
      have c5b0 : decide (0 ≤ x5_1) = true := decide_eq_true c5
      clear c5
      replace H := bn H
      obtain ⟨t107, A6, H⟩ := H
      try dsimp only at H
      have HU7 := Aside0.mk H
      clear H
      have p106 : 0 ≤ (x5_1 : Int) := of_decide_eq_true as_
      have q106 : x5_1 < (l0.length : Int) := of_decide_eq_true as_
      obtain ⟨ad106, A106_1, c106_1, A106_2, c106_2, e106, hx106_0, hx106_1, hx106_2, hx106_3, hx106_4, hx106_5, hx106_6, hx106_7, hl106_1, hi106_1, hl106_2, hi106_2⟩ := at_T71 HR0.out x5_1 p106 q106
      cases e106
      replace hx106_0 := cl HB hx106_0
      replace hx106_1 := cl HB hx106_1
      replace hx106_2 := cl HB hx106_2
      replace hx106_3 := cl HB hx106_3
      replace hx106_4 := cl HB hx106_4
      replace hx106_5 := cl HB hx106_5
      replace hx106_6 := cl HB hx106_6
      replace hx106_7 := cl HB hx106_7
      have HR106_1 := Aside0.mk hi106_1
      have HC106_1 := Aside0.mk hl106_1
      clear hi106_1 hl106_1
      have HR106_2 := Aside0.mk hi106_2
      have HC106_2 := Aside0.mk hl106_2
      clear hi106_2 hl106_2
      replace p106 := eq_true p106
      replace q106 := eq_true q106
      go_upto_if 25 with (first | ((with_reducible refine gf 32 ?_); refine gc Tryz.func32 (some 23) (laws_szWarp.calls _ A106_1 c106_1 _ A106_2 c106_2 _ _ _ _ _ _ _ _ _ (cb HR106_1) HC106_1.out (cb HR106_2) HC106_2.out A6.out) ?_; rintro e w8 ⟨rfl, hb⟩; refine ⟨_, rfl, ?_⟩; replace HB := hs hb; try clear hb))
      (try refine ap ?_)
      have H := HU7.out
      clear HU7
      replace H := ilt H
      rcases H with ⟨c9b0, H⟩ | ⟨c9b0, H⟩
      ·(first | rw [c9b0] | (simp only [i64_w, i32_w]; rw [c9b0]) | (simp only [c9b2, Bool.not_true, Bool.not_false]) | (simp only [c9b1, Bool.not_true, Bool.not_false]) | skip)
       obtain rfl := Option.some.inj H
       go_wp2
       go_ret
       exact ⟨rt, bw⟩
      ·(first | rw [c9b0] | (simp only [i64_w, i32_w]; rw [c9b0]) | (simp only [c9b2, Bool.not_true, Bool.not_false]) | (simp only [c9b1, Bool.not_true, Bool.not_false]) | skip)
       have H' := Aside0.mk H
       clear H
       go_wp2
       go_roundg k1
       case measure => have := HK1.out; omega
       case rel => exact ⟨(t107), (wrap64 (x5_1 + 1)), ev, ev, H', ⟨oa HK1⟩, ⟨bw⟩⟩
     ·rw [if_neg c5] at H
      exact absurd H (by simp)
    ·obtain rfl := Option.some.inj H
     go_wp2
     go_ret
     exact ⟨rt, bw⟩

/-! ### laws_szMach: function 4 -/
def laws_szMach.f (k : Nat) (l0_0 : List Int) (l0_1 : List (S71)) (a1 : Int) : Option (Int) := (laws_szMem.f l0_0 a1).bind fun t109 => (if t109 < 0 then (some (-1)) else ((laws_szWarpS.f k l0_1 t109).bind fun t110 => (if t110 < 0 then (some (-1)) else (some t110))))
theorem laws_szMach.mono : ∀ a0 a1 a2 k, LeO (laws_szMach.f k a0 a1 a2) (laws_szMach.f (k + 1) a0 a1 a2) := by
 intro a0 a1 a2 k
 unfold laws_szMach.f
 repeat' first
  | (with_reducible first | exact laws_szWarpS.mono .. | exact LeO.refl _ | exact LeO.none _ | refine LeO.ite ?_ ?_ | refine LeO.bind ?_ (fun _ => ?_))
  | exact LeO.none _ | refine LeO.ite ?_ ?_ | refine LeO.bind ?_ (fun _ => ?_)
set_option maxHeartbeats 8000000 in
set_option maxRecDepth 100000 in
theorem laws_szMach.calls (k : Nat) (A0_0 : Option Addr) (c0_0 : Nat) (l0_0 : List Int) (A0_1 : Option Addr) (c0_1 : Nat) (l0_1 : List (S71)) (a1 : Int) (r : Int) (w : World) (hr0_0 : Kd.C (Kd.int .u32) w A0_0 l0_0.length l0_0) (hc0_0 : l0_0.length ≤ c0_0) (hr0_1 : Kd.C k71 w A0_1 l0_1.length l0_1) (hc0_1 : l0_1.length ≤ c0_1) (h : laws_szMach.f k l0_0 l0_1 a1 = some r) :
  Calls Tryz.prog 4 #[.agg #[.slice A0_0 l0_0.length c0_0, .slice A0_1 l0_1.length c0_1], .int .i64 a1] w fun e w' => e = .returned (.int .i64 r) ∧ Below w.heap.size w w' := by
 have hu27 := Tryz.underlying27
 have hu24 := Tryz.underlying24
 have HR0_0 := Aside0.mk hr0_0
 have HC0_0 := Aside0.mk hc0_0
 clear hr0_0 hc0_0
 have HR0_1 := Aside0.mk hr0_1
 have HC0_1 := Aside0.mk hc0_1
 clear hr0_1 hc0_1
 have HB := Aside0.mk (Below.refl w.heap.size w)
 unfold laws_szMach.f at h
 have H := h
 clear h
 replace H := bn H
 obtain ⟨t109, A3, H⟩ := H
 try dsimp only at H
 have HU4 := Aside0.mk H
 clear H
 go_enter Tryz.func4, Tryz.ntmps4
 go_upto_if 10 with (first | ((with_reducible refine gd 2 ?_); refine bx 2 27 #[.slice A0_0 l0_0.length c0_0, .slice A0_1 l0_1.length c0_1] ?_; clear HB; intro gb108 w5 hg BK108 hb GE108 HB; clear hb hg; obtain ⟨z6_0, z6_1⟩ := ca2 BK108; obtain ⟨f6_0, f6_1⟩ := fa2 BK108) | ((with_reducible refine gf 13 ?_); refine gc Tryz.func13 (some 8) (laws_szMem.calls A0_0 c0_0 _ _ _ _ (cb HR0_0) HC0_0.out A3.out) ?_; rintro e w7 ⟨rfl, hb⟩; refine ⟨_, rfl, ?_⟩; replace BK108 := b_ BK108 hb; replace HB := hs hb; try clear hb))
 (try refine ap ?_)
 have H := HU4.out
 clear HU4
 replace H := ilt H
 rcases H with ⟨c8b0, H⟩ | ⟨c8b0, H⟩
 ·(first | rw [c8b0] | (simp only [i64_w, i32_w]; rw [c8b0]) | (simp only [c8b2, Bool.not_true, Bool.not_false]) | (simp only [c8b1, Bool.not_true, Bool.not_false]) | skip)
  obtain rfl := Option.some.inj H
  go_wp2
  go_ret
  exact ⟨rt, bw⟩
 ·(first | rw [c8b0] | (simp only [i64_w, i32_w]; rw [c8b0]) | (simp only [c8b2, Bool.not_true, Bool.not_false]) | (simp only [c8b1, Bool.not_true, Bool.not_false]) | skip)
  replace H := bn H
  obtain ⟨t110, A9, H⟩ := H
  try dsimp only at H
  have HU10 := Aside0.mk H
  clear H
  obtain ⟨z11_0, z11_1⟩ := ca2 BK108
  obtain ⟨f11_0, f11_1⟩ := fa2 BK108
  go_upto_if 16 with (first | ((with_reducible refine gf 14 ?_); refine gc Tryz.func14 (some 14) (laws_szWarpS.calls _ A0_1 c0_1 _ _ _ _ (cb HR0_1) HC0_1.out A9.out) ?_; rintro e w12 ⟨rfl, hb⟩; refine ⟨_, rfl, ?_⟩; replace BK108 := b_ BK108 hb; replace HB := hs hb; try clear hb))
  (try refine ap ?_)
  have H := HU10.out
  clear HU10
  replace H := ilt H
  rcases H with ⟨c13b0, H⟩ | ⟨c13b0, H⟩
  ·(first | rw [c13b0] | (simp only [i64_w, i32_w]; rw [c13b0]) | (simp only [c13b2, Bool.not_true, Bool.not_false]) | (simp only [c13b1, Bool.not_true, Bool.not_false]) | skip)
   obtain rfl := Option.some.inj H
   go_wp2
   go_ret
   exact ⟨rt, bw⟩
  ·(first | rw [c13b0] | (simp only [i64_w, i32_w]; rw [c13b0]) | (simp only [c13b2, Bool.not_true, Bool.not_false]) | (simp only [c13b1, Bool.not_true, Bool.not_false]) | skip)
   obtain rfl := Option.some.inj H
   go_wp2
   go_ret
   exact ⟨rt, bw⟩

/-! ### spec_l04Class: function 66 -/
def spec_l04Class.f (a0 : Int) : Option (Bool) := if a0 ≥ 0 then (some (decide (a0 < 5))) else (some false)
set_option maxHeartbeats 8000000 in
set_option maxRecDepth 100000 in
theorem spec_l04Class.calls (a0 : Int) (r : Bool) (w : World) (h : spec_l04Class.f a0 = some r) :
  Calls Tryz.prog 66 #[.int .i64 a0] w fun e w' => e = .returned (.bool r) ∧ Drawn0 w w' := by
 unfold spec_l04Class.f at h
 have H := h
 clear h
 replace H := ige H
 rcases H with ⟨c2b0, H⟩ | ⟨c2b0, H⟩
 ·obtain rfl := Option.some.inj H
  go_enter Tryz.func66, Tryz.ntmps66
  go_wp2
  go_ret
  exact ⟨ev, dr⟩
 ·obtain rfl := Option.some.inj H
  go_enter Tryz.func66, Tryz.ntmps66
  go_wp2
  go_ret
  exact ⟨ev, dr⟩

/-! ### spec_l01Bits: function 65 -/
def spec_l01Bits.l0 : Nat → Int → List Int → Int → Option (List Int)
 | 0, _, _, _ => none
 | k + 1, x0, x3, x4 => if x4 < 32 then (if x3.length < 17592186044416 then (spec_l01Bits.l0 k ((Int.tdiv x0 2) % 4294967296) (x3 ++ [wrap64 (Int.tmod x0 2)]) (wrap64 (x4 + 1))) else (none)) else (some x3)
def spec_l01Bits.f (k : Nat) (a0 : Int) : Option (List Int) := spec_l01Bits.l0 k a0 (([] : List Int)) 0
theorem spec_l01Bits.mono_l : ∀ k, (∀ y0 y1 y2, LeO (spec_l01Bits.l0 k y0 y1 y2) (spec_l01Bits.l0 (k + 1) y0 y1 y2))
 | 0 => fun _ _ _ r h => by simp [spec_l01Bits.l0] at h
 | k + 1 => by
  have ih0 := spec_l01Bits.mono_l k
  ·intro y0 y1 y2
   unfold spec_l01Bits.l0
   repeat' first
    | (with_reducible first | exact ih0 .. | exact LeO.refl _ | exact LeO.none _ | refine LeO.ite ?_ ?_ | refine LeO.bind ?_ (fun _ => ?_))
    | exact LeO.none _ | refine LeO.ite ?_ ?_ | refine LeO.bind ?_ (fun _ => ?_)
theorem spec_l01Bits.mono : ∀ a0 k, LeO (spec_l01Bits.f k a0) (spec_l01Bits.f (k + 1) a0) := by
 intro a0 k
 have ih0 := spec_l01Bits.mono_l k
 unfold spec_l01Bits.f
 repeat' first
  | (with_reducible first | exact ih0 .. | exact LeO.refl _ | exact LeO.none _ | refine LeO.ite ?_ ?_ | refine LeO.bind ?_ (fun _ => ?_))
  | exact LeO.none _ | refine LeO.ite ?_ ?_ | refine LeO.bind ?_ (fun _ => ?_)
set_option maxHeartbeats 8000000 in
set_option maxRecDepth 100000 in
theorem spec_l01Bits.calls (k : Nat) (a0 : Int) (r : List Int) (w : World) (h : spec_l01Bits.f k a0 = some r) :
  Calls Tryz.prog 65 #[.int .u32 a0] w fun e w' => ∃ v0_ : Value, e = .returned (v0_) ∧ Kd.R (Kd.int .i64) 3 w' w.heap.size (fun _ => True) v0_ r ∧ Below w.heap.size w w' := by
 have HB := Aside0.mk (Below.refl w.heap.size w)
 unfold spec_l01Bits.f at h
 have H := h
 clear h
 obtain ⟨y111, hy111⟩ : ∃ y_ : List Int, y_ = (([] : List Int)) := ⟨_, rfl⟩
 rw [← hy111] at H
 try with_reducible replace H := bs H
 have Ny111 := Aside0.mk hy111
 clear hy111
 have H' := Aside0.mk H
 clear H
 go_enter Tryz.func65, Tryz.ntmps65
 go_wp2_with (first | ((with_reducible refine gate_dst (N := 5) rfl ?_); refine Kd.R_lit (Kd.int .i64) _ 3 ?hg (N := 5) ?hd (xs := ([] : List Int)) (inner := []) (ok := fun _ => True) (okp := fun _ => True) ?hr ?hp (fun _ hk => hk) trivial (Below.refl _ _) (Nat.le_refl _) (by simp) ?_; (case hd => rfl); (case hg => rfl); (case hr => first | (go_simp; done) | (go_simp; rfl)); (case hp => exact (Reps.none _ _)); intro v112 w2 ho3 hb hg_ hnew_; clear hg_ hnew_; (first | rw [← Ny111.out] at ho3 | (simp only [Int.reduceToNat] at ho3; rw [← Ny111.out] at ho3)); have HO113 := Aside0.mk (Kd.R_lower ho3 (below_size bw)); replace HB := hs hb; clear hb ho3))
 go_loopg [0, 3, 4] k (fun kq v0 v3 v4 w' => ∃ (x0_1 : Int) (x3_1 : List Int) (x4_1 : Int), v0 = .int .u32 x0_1 ∧ v4 = .int .i64 x4_1 ∧ Aside0 (spec_l01Bits.l0 kq x0_1 x3_1 x4_1 = some r) ∧ Aside0 (kq ≤ k) ∧ Aside0 (Kd.R (Kd.int .i64) 3 w' w.heap.size (fun _ => True) v3 x3_1) ∧ Aside0 (Below w.heap.size w w'))
 case atStart => exact ⟨(a0), (y111), (0), ev, ev, H', ⟨Nat.le_refl _⟩, ⟨ro HO113⟩, ⟨bw⟩⟩
 case round =>
  clear H'
  obtain ⟨x0_1, x3_1, x4_1, rfl, rfl, HA, HK1, HO_3, HB⟩ := hrel
  cases gk with
  | zero => exact absurd HA.out (by simp [spec_l01Bits.l0])
  | succ k1 =>
   have H := HA.out
   clear HA
   simp only [spec_l01Bits.l0] at H
   replace H := ilt H
   rcases H with ⟨c4b0, H⟩ | ⟨c4b0, H⟩
   ·by_cases c5 : x3_1.length < 17592186044416
    ·rw [if_pos c5] at H
     have LMc5 := Aside0.mk c5
     clear c5
     obtain ⟨y114, hy114⟩ : ∃ y_ : List Int, y_ = (x3_1 ++ [wrap64 (Int.tmod x0_1 2)]) := ⟨_, rfl⟩
     rw [← hy114] at H
     try with_reducible replace H := bs H
     have Ny114 := Aside0.mk hy114
     clear hy114
     have H' := Aside0.mk H
     clear H
     go_wp2_with (first | ((with_reducible refine gate_builtin (b := .append) (xs := #[.tmp 10, .tmp 14]) rfl ?_); at_builtin; refine Kd.R_append (Kd.int .i64) (w0 := w) w.heap.size rfl (.tmp 10) (.tmp 14) 29 3 (.int .i64 0) 8 rfl Tryz.underlying29 info3 rfl (by decide) (by omega) u3 x3_1 (wrap64 (Int.tmod x0_1 2)) [.int .i64 (wrap64 (Int.tmod x0_1 2))] (fun _ => True) (fun _ => False) rfl rfl ?aP (fun _ hk => hk.elim) ?aF ?aO ?aB ?aS ?aL ?_; (case aP => exact rfl); (case aB => exact bw); (case aF => exact (fun _ _ => trivial)); (case aO => exact (ro HO_3)); (case aS => exact (below_size bw)); (case aL => have := LMc5.out; omega); intro v115 w6 ho hb hg hat; rw [← Ny114.out] at ho; have HO116 := Aside0.mk (ho); replace HB := Aside0.mk (hb); clear HO_3; clear ho hb hg hat))
     go_roundg k1
     case measure => have := HK1.out; omega
     case rel => exact ⟨((Int.tdiv x0_1 2) % 4294967296), (y114), (wrap64 (x4_1 + 1)), ev, ev, H', ⟨oa HK1⟩, ⟨ro HO116⟩, ⟨bw⟩⟩
    ·rw [if_neg c5] at H
     exact absurd H (by simp)
   ·obtain rfl := Option.some.inj H
    go_wp2
    go_ret
    exact ⟨_, rt, ro HO_3, bw⟩

/-! ### spec_BitList: function 37 -/
def spec_BitList.l0 : Nat → List Int → List Int → Int → Option (List Int)
 | 0, _, _, _ => none
 | k + 1, x3, x4, x5 => if x5 < 32 then (if 0 ≤ x5 then (if x5 < (x4.length : Int) then (if (rd x4 x5) = 1 then (if x3.length < 17592186044416 then (spec_BitList.l0 k (x3 ++ [x5]) x4 (wrap64 (x5 + 1))) else (none)) else (spec_BitList.l0 k x3 x4 (wrap64 (x5 + 1)))) else (none)) else (none)) else (some x3)
def spec_BitList.f (k : Nat) (a0 : Int) : Option (List Int) := (spec_l01Bits.f k a0).bind fun t120 => (spec_BitList.l0 k (([] : List Int)) t120 0)
theorem spec_BitList.mono_l : ∀ k, (∀ y0 y1 y2, LeO (spec_BitList.l0 k y0 y1 y2) (spec_BitList.l0 (k + 1) y0 y1 y2))
 | 0 => fun _ _ _ r h => by simp [spec_BitList.l0] at h
 | k + 1 => by
  have ih0 := spec_BitList.mono_l k
  ·intro y0 y1 y2
   unfold spec_BitList.l0
   repeat' first
    | (with_reducible first | exact ih0 .. | exact spec_l01Bits.mono .. | exact LeO.refl _ | exact LeO.none _ | refine LeO.ite ?_ ?_ | refine LeO.bind ?_ (fun _ => ?_))
    | exact LeO.none _ | refine LeO.ite ?_ ?_ | refine LeO.bind ?_ (fun _ => ?_)
theorem spec_BitList.mono : ∀ a0 k, LeO (spec_BitList.f k a0) (spec_BitList.f (k + 1) a0) := by
 intro a0 k
 have ih0 := spec_BitList.mono_l k
 unfold spec_BitList.f
 repeat' first
  | (with_reducible first | exact ih0 .. | exact spec_l01Bits.mono .. | exact LeO.refl _ | exact LeO.none _ | refine LeO.ite ?_ ?_ | refine LeO.bind ?_ (fun _ => ?_))
  | exact LeO.none _ | refine LeO.ite ?_ ?_ | refine LeO.bind ?_ (fun _ => ?_)
set_option maxHeartbeats 8000000 in
set_option maxRecDepth 100000 in
theorem spec_BitList.calls (k : Nat) (a0 : Int) (r : List Int) (w : World) (h : spec_BitList.f k a0 = some r) :
  Calls Tryz.prog 37 #[.int .u32 a0] w fun e w' => ∃ v0_ : Value, e = .returned (v0_) ∧ Kd.R (Kd.int .i64) 3 w' w.heap.size (fun _ => True) v0_ r ∧ Below w.heap.size w w' := by
 have HB := Aside0.mk (Below.refl w.heap.size w)
 unfold spec_BitList.f at h
 have H := h
 clear h
 obtain ⟨y117, hy117⟩ : ∃ y_ : List Int, y_ = (([] : List Int)) := ⟨_, rfl⟩
 rw [← hy117] at H
 try with_reducible replace H := bs H
 have Ny117 := Aside0.mk hy117
 clear hy117
 replace H := bn H
 obtain ⟨t120, A2, H⟩ := H
 try dsimp only at H
 have H' := Aside0.mk H
 clear H
 go_enter Tryz.func37, Tryz.ntmps37
 go_wp2_with (first | ((with_reducible refine gate_dst (N := 6) rfl ?_); refine Kd.R_lit (Kd.int .i64) _ 3 ?hg (N := 6) ?hd (xs := ([] : List Int)) (inner := []) (ok := fun _ => True) (okp := fun _ => True) ?hr ?hp (fun _ hk => hk) trivial (Below.refl _ _) (Nat.le_refl _) (by simp) ?_; (case hd => rfl); (case hg => rfl); (case hr => first | (go_simp; done) | (go_simp; rfl)); (case hp => exact (Reps.none _ _)); intro v118 w3 ho4 hb hg_ hnew_; clear hg_ hnew_; (first | rw [← Ny117.out] at ho4 | (simp only [Int.reduceToNat] at ho4; rw [← Ny117.out] at ho4)); have HO119 := Aside0.mk (Kd.R_lower ho4 (below_size bw)); replace HB := hs hb; clear hb ho4) | ((with_reducible refine gf 65 ?_); refine gc Tryz.func65 (some 8) (spec_l01Bits.calls _ _ _ _ A2.out) ?_; rintro e w5 ⟨v121, rfl, ho0, hb⟩; refine ⟨_, rfl, ?_⟩; have HO122 := Aside0.mk (Kd.R_lower (Kd.R_new' ho0 (Kd.R_lt (ro HO119))) (below_size bw)); replace HO119 := Aside0.mk (Kd.R_elder' (ro HO119) (Kd.R_base ho0) hb); replace HB := hs hb; try clear hb; (try clear ho0)))
 go_loopg [3, 5] k (fun kq v3 v5 w' => ∃ (x3_1 : List Int) (x5_1 : Int), v5 = .int .i64 x5_1 ∧ Aside0 (spec_BitList.l0 kq x3_1 t120 x5_1 = some r) ∧ Aside0 (kq ≤ k) ∧ Aside0 (Kd.R (Kd.int .i64) 3 w' w.heap.size (fun k_ => some k_ ≠ (v121 : Value).ownBlock) v3 x3_1) ∧ Aside0 (Kd.R (Kd.int .i64) 3 w' w.heap.size (fun k_ => some k_ ≠ (v3 : Value).ownBlock) v121 t120) ∧ Aside0 (Below w.heap.size w w'))
 case atStart => exact ⟨(y117), (0), ev, H', ⟨Nat.le_refl _⟩, ⟨by (with_reducible repeat (first | apply Kd.R_alloc | apply Kd.R_drewN | apply Kd.R_drew)); exact Kd.R_mono HO119.out (fun _ hk => hk.2)⟩, ⟨by (with_reducible repeat (first | apply Kd.R_alloc | apply Kd.R_drewN | apply Kd.R_drew)); exact Kd.R_mono HO122.out (fun _ hk => hk.2)⟩, ⟨bw⟩⟩
 case round =>
  clear H'
  obtain ⟨x3_1, x5_1, rfl, HA, HK1, HO_3, HO_4, HB⟩ := hrel
  cases gk with
  | zero => exact absurd HA.out (by simp [spec_BitList.l0])
  | succ k1 =>
   have H := HA.out
   clear HA
   simp only [spec_BitList.l0] at H
   replace H := ilt H
   rcases H with ⟨c6b0, H⟩ | ⟨c6b0, H⟩
   ·by_cases c7 : 0 ≤ x5_1
    ·rw [if_pos c7] at H
     have c7b0 : decide (0 ≤ x5_1) = true := decide_eq_true c7
     clear c7
     by_cases c8 : x5_1 < (t120.length : Int)
     ·rw [if_pos c8] at H
      have c8b0 : decide (x5_1 < (t120.length : Int)) = true := decide_eq_true c8
      clear c8
      replace H := ieq H
      rcases H with ⟨c9b0, c9b1, H⟩ | ⟨c9, c9b0, c9b1, H⟩
      ·by_cases c10 : x3_1.length < 17592186044416
       ·rw [if_pos c10] at H
        have LMc10 := Aside0.mk c10
        clear c10
        obtain ⟨y124, hy124⟩ : ∃ y_ : List Int, y_ = (x3_1 ++ [x5_1]) := ⟨_, rfl⟩
        rw [← hy124] at H
        try with_reducible replace H := bs H
        have Ny124 := Aside0.mk hy124
        clear hy124
        have H' := Aside0.mk H
        clear H
        obtain ⟨Ao11, co11, eo11⟩ := Kd.R_slice HO_4.out
        subst eo11
        have p123 : 0 ≤ (x5_1 : Int) := of_decide_eq_true as_
        have q123 : x5_1 < (t120.length : Int) := of_decide_eq_true as_
        obtain ⟨ad123, e123, hx123_0⟩ := Kd.at_int (Kd.R_reads' HO_4.out).2.2 x5_1 p123 q123
        cases e123
        replace p123 := eq_true p123
        replace q123 := eq_true q123
        go_wp2_with (first | ((with_reducible refine gate_builtin (b := .append) (xs := #[.tmp 18, .tmp 20]) rfl ?_); at_builtin; refine Kd.R_append (Kd.int .i64) (w0 := w) w.heap.size rfl (.tmp 18) (.tmp 20) 29 3 (.int .i64 0) 8 rfl Tryz.underlying29 info3 rfl (by decide) (by omega) u3 x3_1 x5_1 [.int .i64 x5_1] (fun k_ => some k_ ≠ (.slice (some ad123) t120.length co11 : Value).ownBlock) (fun _ => False) rfl rfl ?aP (fun _ hk => hk.elim) ?aF ?aO ?aB ?aS ?aL ?_; (case aP => exact rfl); (case aB => exact bw); (case aF => exact (fun k_ hk => Kd.fresh' (Kd.R_lt (ro HO_4)) k_ hk)); (case aO => exact (ro HO_3)); (case aS => exact (below_size bw)); (case aL => have := LMc10.out; omega); intro v125 w12 ho hb hg hat; rw [← Ny124.out] at ho; replace HO_4 := Aside0.mk (Kd.R_after (ok := (fun _ => True)) (by (with_reducible repeat (first | apply Kd.R_alloc | apply Kd.R_drewN | apply Kd.R_drew)); exact Kd.R_mono HO_4.out (fun _ hk => ⟨trivial, hk⟩)) hg hat); have HO126 := Aside0.mk (ho); replace HB := Aside0.mk (hb); clear HO_3; clear ho hb hg hat))
        go_roundg k1
        case measure => have := HK1.out; omega
        case rel => exact ⟨(y124), (wrap64 (x5_1 + 1)), ev, H', ⟨oa HK1⟩, ⟨ro HO126⟩, ⟨by (with_reducible repeat (first | apply Kd.R_alloc | apply Kd.R_drewN | apply Kd.R_drew)); exact Kd.R_mono HO_4.out (fun _ hk => hk.2)⟩, ⟨bw⟩⟩
       ·rw [if_neg c10] at H
        exact absurd H (by simp)
      ·have H' := Aside0.mk H
       clear H
       obtain ⟨Ao13, co13, eo13⟩ := Kd.R_slice HO_4.out
       subst eo13
       have p123 : 0 ≤ (x5_1 : Int) := of_decide_eq_true as_
       have q123 : x5_1 < (t120.length : Int) := of_decide_eq_true as_
       obtain ⟨ad123, e123, hx123_0⟩ := Kd.at_int (Kd.R_reads' HO_4.out).2.2 x5_1 p123 q123
       cases e123
       replace p123 := eq_true p123
       replace q123 := eq_true q123
       go_wp2
       go_roundg k1
       case measure => have := HK1.out; omega
       case rel => exact ⟨(x3_1), (wrap64 (x5_1 + 1)), ev, H', ⟨oa HK1⟩, ⟨ro HO_3⟩, ⟨ro HO_4⟩, ⟨bw⟩⟩
     ·rw [if_neg c8] at H
      exact absurd H (by simp)
    ·rw [if_neg c7] at H
     exact absurd H (by simp)
   ·obtain rfl := Option.some.inj H
    go_wp2
    go_ret
    exact ⟨_, rt, by (with_reducible repeat (first | apply Kd.R_alloc | apply Kd.R_drewN | apply Kd.R_drew)); exact Kd.R_mono HO_3.out (fun _ hk => trivial), bw⟩

/-! ### spec_Highest: function 84 -/
def spec_Highest.f (k : Nat) (a0 : Int) : Option (Int) := (spec_BitList.f k a0).bind fun t127 => (if (t127.length : Int) = 0 then (some (-1)) else (if 0 ≤ (wrap64 ((t127.length : Int) - 1)) then (if (wrap64 ((t127.length : Int) - 1)) < (t127.length : Int) then (some (rd t127 (wrap64 ((t127.length : Int) - 1)))) else (none)) else (none)))
theorem spec_Highest.mono : ∀ a0 k, LeO (spec_Highest.f k a0) (spec_Highest.f (k + 1) a0) := by
 intro a0 k
 unfold spec_Highest.f
 repeat' first
  | (with_reducible first | exact spec_BitList.mono .. | exact LeO.refl _ | exact LeO.none _ | refine LeO.ite ?_ ?_ | refine LeO.bind ?_ (fun _ => ?_))
  | exact LeO.none _ | refine LeO.ite ?_ ?_ | refine LeO.bind ?_ (fun _ => ?_)
set_option maxHeartbeats 8000000 in
set_option maxRecDepth 100000 in
theorem spec_Highest.calls (k : Nat) (a0 : Int) (r : Int) (w : World) (h : spec_Highest.f k a0 = some r) :
  Calls Tryz.prog 84 #[.int .u32 a0] w fun e w' => e = .returned (.int .i64 r) ∧ Below w.heap.size w w' := by
 have HB := Aside0.mk (Below.refl w.heap.size w)
 unfold spec_Highest.f at h
 have H := h
 clear h
 replace H := bn H
 obtain ⟨t127, A2, H⟩ := H
 try dsimp only at H
 have HU3 := Aside0.mk H
 clear H
 go_enter Tryz.func84, Tryz.ntmps84
 go_upto_if 8 with (first | ((with_reducible refine gf 37 ?_); refine gc Tryz.func37 (some 5) (spec_BitList.calls _ _ _ _ A2.out) ?_; rintro e w4 ⟨v128, rfl, ho0, hb⟩; refine ⟨_, rfl, ?_⟩; have HO129 := Aside0.mk (Kd.R_lower ho0 (below_size bw)); replace HB := hs hb; try clear hb; (try clear ho0); obtain ⟨Ao5, co5, eo5⟩ := Kd.R_slice HO129.out; subst eo5))
 (try refine ap ?_)
 have H := HU3.out
 clear HU3
 by_cases c6 : (t127.length : Int) = 0
 ·rw [if_pos c6] at H
  have c6b0 : ((t127.length : Int) == 0) = true := beq_iff_eq.mpr c6
  have c6b1 : ((t127.length : Int) != 0) = false := bne_eq_false_iff_eq.mpr c6
  clear c6
  (first | rw [c6b0] | (simp only [i64_w, i32_w]; rw [c6b0]) | (simp only [c6b2, Bool.not_true, Bool.not_false]) | (simp only [c6b1, Bool.not_true, Bool.not_false]) | skip)
  obtain rfl := Option.some.inj H
  go_wp2
  go_ret
  exact ⟨rt, bw⟩
 ·rw [if_neg c6] at H
  have c6b0 : ((t127.length : Int) == 0) = false := beq_eq_false_iff_ne.mpr c6
  have c6b1 : ((t127.length : Int) != 0) = true := bne_iff_ne.mpr c6
  have c6b2 : ¬ (t127 = []) := fun h_ => c6 (by rw [h_]; rfl)
  (first | rw [c6b0] | (simp only [i64_w, i32_w]; rw [c6b0]) | (simp only [c6b2, Bool.not_true, Bool.not_false]) | (simp only [c6b1, Bool.not_true, Bool.not_false]) | skip)
  obtain ⟨ji7, hji7⟩ : ∃ j_ : Int, (wrap64 ((t127.length : Int) - 1)) = j_ := ⟨_, rfl⟩
  first | rw [hji7] at H | simp only [hji7] at H
  have hji7w : (IntKind.i64.wrap ((t127.length : Int) - 1)) = ji7 := (i64_w _).trans hji7
  by_cases c8 : 0 ≤ (ji7)
  ·rw [if_pos c8] at H
   have c8b0 : decide (0 ≤ (ji7)) = true := decide_eq_true c8
   clear c8
   by_cases c9 : (ji7) < (t127.length : Int)
   ·rw [if_pos c9] at H
    have c9b0 : decide ((ji7) < (t127.length : Int)) = true := decide_eq_true c9
    clear c9
    obtain rfl := Option.some.inj H
    have p130 : 0 ≤ ((ji7) : Int) := of_decide_eq_true as_
    have q130 : (ji7) < (t127.length : Int) := of_decide_eq_true as_
    obtain ⟨ad130, e130, hx130_0⟩ := Kd.at_int (Kd.R_reads' HO129.out).2.2 (ji7) p130 q130
    cases e130
    replace p130 := eq_true p130
    replace q130 := eq_true q130
    go_wp2
    go_ret
    exact ⟨by first | exact rt1 | (simp only [← hji7]; exact rt1) | exact rt, bw⟩
   ·rw [if_neg c9] at H
    exact absurd H (by simp)
  ·rw [if_neg c8] at H
   exact absurd H (by simp)

/-! ### spec_l04Pow: function 67 -/
def spec_l04Pow.l0 : Nat → Int → Int → Option (Int)
 | 0, _, _ => none
 | k + 1, x0, x3 => if x0 > 0 then (spec_l04Pow.l0 k (wrap64 (x0 - 1)) (wrap64 (2 * x3))) else (some x3)
def spec_l04Pow.f (k : Nat) (a0 : Int) : Option (Int) := spec_l04Pow.l0 k a0 1
theorem spec_l04Pow.mono_l : ∀ k, (∀ y0 y1, LeO (spec_l04Pow.l0 k y0 y1) (spec_l04Pow.l0 (k + 1) y0 y1))
 | 0 => fun _ _ r h => by simp [spec_l04Pow.l0] at h
 | k + 1 => by
  have ih0 := spec_l04Pow.mono_l k
  ·intro y0 y1
   unfold spec_l04Pow.l0
   repeat' first
    | (with_reducible first | exact ih0 .. | exact LeO.refl _ | exact LeO.none _ | refine LeO.ite ?_ ?_ | refine LeO.bind ?_ (fun _ => ?_))
    | exact LeO.none _ | refine LeO.ite ?_ ?_ | refine LeO.bind ?_ (fun _ => ?_)
theorem spec_l04Pow.mono : ∀ a0 k, LeO (spec_l04Pow.f k a0) (spec_l04Pow.f (k + 1) a0) := by
 intro a0 k
 have ih0 := spec_l04Pow.mono_l k
 unfold spec_l04Pow.f
 repeat' first
  | (with_reducible first | exact ih0 .. | exact LeO.refl _ | exact LeO.none _ | refine LeO.ite ?_ ?_ | refine LeO.bind ?_ (fun _ => ?_))
  | exact LeO.none _ | refine LeO.ite ?_ ?_ | refine LeO.bind ?_ (fun _ => ?_)
set_option maxHeartbeats 8000000 in
set_option maxRecDepth 100000 in
theorem spec_l04Pow.calls (k : Nat) (a0 : Int) (r : Int) (w : World) (h : spec_l04Pow.f k a0 = some r) :
  Calls Tryz.prog 67 #[.int .i64 a0] w fun e w' => e = .returned (.int .i64 r) ∧ Drawn0 w w' := by
 unfold spec_l04Pow.f at h
 have H := h
 clear h
 have H' := Aside0.mk H
 clear H
 go_enter Tryz.func67, Tryz.ntmps67
 go_wp2
 go_loopg [0, 3] k (fun kq v0 v3 w' => ∃ (x0_1 : Int) (x3_1 : Int), v0 = .int .i64 x0_1 ∧ v3 = .int .i64 x3_1 ∧ Aside0 (spec_l04Pow.l0 kq x0_1 x3_1 = some r) ∧ Aside0 (kq ≤ k) ∧ Drawn0 w w')
 case atStart => exact ⟨(a0), (1), ev, ev, H', ⟨Nat.le_refl _⟩, dr⟩
 case round =>
  clear H'
  obtain ⟨x0_1, x3_1, rfl, rfl, HA, HK1, ⟨m1, rfl⟩⟩ := hrel
  cases gk with
  | zero => exact absurd HA.out (by simp [spec_l04Pow.l0])
  | succ k1 =>
   have H := HA.out
   clear HA
   simp only [spec_l04Pow.l0] at H
   replace H := igt H
   rcases H with ⟨c2b0, H⟩ | ⟨c2b0, H⟩
   ·have H' := Aside0.mk H
    clear H
    go_wp2
    go_roundg k1
    case measure => have := HK1.out; omega
    case rel => exact ⟨(wrap64 (x0_1 - 1)), (wrap64 (2 * x3_1)), ev, ev, H', ⟨oa HK1⟩, dr⟩
   ·obtain rfl := Option.some.inj H
    go_wp2
    go_ret
    exact ⟨ev, dr⟩

/-! ### spec_PerPage: function 85 -/
def spec_PerPage.f (k : Nat) (a0 : Int) : Option (Int) := (spec_l04Class.f a0).bind fun t131 => (if t131 = true then ((spec_l04Pow.f k a0).bind fun t132 => (if t132 = 0 then (none) else (some (wrap64 ((16 : Int) / t132))))) else (some 0))
theorem spec_PerPage.mono : ∀ a0 k, LeO (spec_PerPage.f k a0) (spec_PerPage.f (k + 1) a0) := by
 intro a0 k
 unfold spec_PerPage.f
 repeat' first
  | (with_reducible first | exact spec_l04Pow.mono .. | exact LeO.refl _ | exact LeO.none _ | refine LeO.ite ?_ ?_ | refine LeO.bind ?_ (fun _ => ?_))
  | exact LeO.none _ | refine LeO.ite ?_ ?_ | refine LeO.bind ?_ (fun _ => ?_)
set_option maxHeartbeats 8000000 in
set_option maxRecDepth 100000 in
theorem spec_PerPage.calls (k : Nat) (a0 : Int) (r : Int) (w : World) (h : spec_PerPage.f k a0 = some r) :
  Calls Tryz.prog 85 #[.int .i64 a0] w fun e w' => e = .returned (.int .i64 r) ∧ Drawn0 w w' := by
 unfold spec_PerPage.f at h
 have H := h
 clear h
 replace H := bn H
 obtain ⟨t131, A2, H⟩ := H
 try dsimp only at H
 have HU3 := Aside0.mk H
 clear H
 go_enter Tryz.func85, Tryz.ntmps85
 go_upto_if 5 with (first | ((with_reducible refine gf 66 ?_); refine gc Tryz.func66 (some 4) (spec_l04Class.calls _ _ _ A2.out) ?_; rintro e w' ⟨rfl, ⟨nd, rfl⟩⟩; refine ⟨_, rfl, ?_⟩))
 (try refine ap ?_)
 have H := HU3.out
 clear HU3
 replace H := ib H
 rcases H with ⟨rfl, H⟩ | ⟨rfl, H⟩
 ·(try simp only [Bool.not_true, Bool.not_false])
  replace H := bn H
  obtain ⟨t132, A5, H⟩ := H
  try dsimp only at H
  by_cases c6 : t132 = 0
  ·rw [if_pos c6] at H
   exact absurd H (by simp)
  ·rw [if_neg c6] at H
   have c6b0 : (t132 == 0) = false := beq_eq_false_iff_ne.mpr c6
   have c6b1 : (t132 != 0) = true := bne_iff_ne.mpr c6
   obtain rfl := Option.some.inj H
   go_wp2_with (first | ((with_reducible refine gf 67 ?_); refine gc Tryz.func67 (some 7) (spec_l04Pow.calls _ _ _ _ A5.out) ?_; rintro e w' ⟨rfl, ⟨nd, rfl⟩⟩; refine ⟨_, rfl, ?_⟩))
   go_ret
   exact ⟨ev, dr⟩
 ·(try simp only [Bool.not_true, Bool.not_false])
  obtain rfl := Option.some.inj H
  go_wp2
  go_ret
  exact ⟨ev, dr⟩

end Go.Proofs.YtobboonnfocalaaGreatDoor.PG1
namespace Go.Proofs.YtobboonnfocalaaGreatDoor.PG1
open Go.RowKit Go.Proofs.YtobboonnfocalaaGreatDoorW.PrintWords Go.Proofs.YtobboonnfocalaaGreatDoorW.PrintLast Go.Proofs.YtobboonnfocalaaGreatDoorW.PrintMore Go.Proofs.YtobboonnfocalaaGreatDoor.T
attribute [local go_sem] max2_int min2_int max_two min_two max_three min_three max_four min_four   -- for this text's walks alone
set_option linter.unusedVariables false
set_option linter.unusedSimpArgs false

/-! ### spec_CtlOk: function 64 -/
def spec_CtlOk.j0 : Nat → Int → Bool → Int → Int → Int → Int → Option (Bool)
 | 0, _, _, _, _, _, _ => none
 | k + 1, x4, x5, x134000, x134001, x134002, x134003 => if x5 = true then (if x134001 = 0 then (if x134002 = 0 then (some (x134003 == 0)) else (some false)) else (some false)) else (if x4 = 1 then ((spec_l04Class.f x134001).bind fun t134 => (if t134 = true then (if x134002 = 0 then (some false) else ((spec_Highest.f k x134002).bind fun t135 => ((spec_PerPage.f k x134001).bind fun t136 => (if t135 < t136 then (some (x134003 == 0)) else (some false))))) else (some false))) else (if x4 = 2 then (if x134001 = 0 then (if x134002 = 0 then (if x134003 ≥ 2 then (some (decide (x134003 ≤ 16))) else (some false)) else (some false)) else (some false)) else (some false)))
def spec_CtlOk.f (k : Nat) (a0_0 : Int) (a0_1 : Int) (a0_2 : Int) (a0_3 : Int) : Option (Bool) := if a0_0 = 0 then (spec_CtlOk.j0 k a0_0 (a0_0 == 0) a0_0 a0_1 a0_2 a0_3) else (spec_CtlOk.j0 k a0_0 (a0_0 == 3) a0_0 a0_1 a0_2 a0_3)
theorem spec_CtlOk.mono_l : ∀ k, (∀ y0 y1 y2 y3 y4 y5, LeO (spec_CtlOk.j0 k y0 y1 y2 y3 y4 y5) (spec_CtlOk.j0 (k + 1) y0 y1 y2 y3 y4 y5))
 | 0 => fun _ _ _ _ _ _ r h => by simp [spec_CtlOk.j0] at h
 | k + 1 => by
  have ih0 := spec_CtlOk.mono_l k
  ·intro y0 y1 y2 y3 y4 y5
   unfold spec_CtlOk.j0
   repeat' first
    | (with_reducible first | exact ih0 .. | exact spec_Highest.mono .. | exact spec_PerPage.mono .. | exact LeO.refl _ | exact LeO.none _ | refine LeO.ite ?_ ?_ | refine LeO.bind ?_ (fun _ => ?_))
    | exact LeO.none _ | refine LeO.ite ?_ ?_ | refine LeO.bind ?_ (fun _ => ?_)
theorem spec_CtlOk.mono : ∀ a0 a1 a2 a3 k, LeO (spec_CtlOk.f k a0 a1 a2 a3) (spec_CtlOk.f (k + 1) a0 a1 a2 a3) := by
 intro a0 a1 a2 a3 k
 have ih0 := spec_CtlOk.mono_l k
 unfold spec_CtlOk.f
 repeat' first
  | (with_reducible first | exact ih0 .. | exact spec_Highest.mono .. | exact spec_PerPage.mono .. | exact LeO.refl _ | exact LeO.none _ | refine LeO.ite ?_ ?_ | refine LeO.bind ?_ (fun _ => ?_))
  | exact LeO.none _ | refine LeO.ite ?_ ?_ | refine LeO.bind ?_ (fun _ => ?_)
def spec_CtlOk.T6 : Bool × List (List Nat × List Nat) := (true, [([], []), ([0], [0]), ([1], [1]), ([2, 2], [2]), ([3], [3]), ([4, 3], [3, 4]), ([5, 3], [3, 5]), ([3, 6], [3, 6]), ([7, 3], [7]), ([8], [8]), ([9, 8], [8, 9]), ([10, 8, 8], [8, 10]), ([8], [8]), ([12, 8], [8, 12]), ([13, 11, 8], [8, 13]), ([11, 14, 8], [8, 11, 14]), ([8, 15], [8, 15]), ([16, 14], [16]), ([17], [17]), ([18, 17], [17, 18]), ([19, 17], [17, 19]), ([17, 20], [17, 20]), ([21, 17, 0, 1, 2, 3, 4, 5, 6, 7, 8, 9, 10, 11, 12, 13, 14, 15, 16, 17, 18, 19, 20, 21], [21])])
def spec_CtlOk.B6 : List Nat := [0, 1, 3, 7, 15, 31, 63, 127, 255, 511, 1023, 2047, 511, 4607, 16383, 32767, 65535, 131071, 262143, 524287, 1048575, 2097151, 4194303]
theorem spec_CtlOk.tab6 : rtab .any (opsOf Tryz.f64 6) = spec_CtlOk.T6 := kr
theorem spec_CtlOk.bits6 : waitsOk spec_CtlOk.T6.2 spec_CtlOk.B6 = true := kr
set_option maxHeartbeats 2000000 in
set_option maxRecDepth 100000 in
theorem spec_CtlOk.calls (k : Nat) (a0_0 : Int) (a0_1 : Int) (a0_2 : Int) (a0_3 : Int) (r : Bool) (w : World) (h : spec_CtlOk.f k a0_0 a0_1 a0_2 a0_3 = some r) :
  Calls Tryz.prog 64 #[.agg #[.int .i64 a0_0, .int .i64 a0_1, .int .u32 a0_2, .int .i64 a0_3]] w fun e w' => e = .returned (.bool r) ∧ Below w.heap.size w w' := by
 have hu75 := Tryz.underlying75
 have HB := Aside0.mk (Below.refl w.heap.size w)
 unfold spec_CtlOk.f at h
 have H := h
 clear h
 have HC2 := Aside0.mk H
 clear H
 go_enter Tryz.func64, Tryz.ntmps64
 go_upto_if 5 with (first | ((with_reducible refine gd 1 ?_); refine bx 1 75 #[.int .i64 a0_0, .int .i64 a0_1, .int .u32 a0_2, .int .i64 a0_3] ?_; clear HB; intro gb133 w3 hg BK133 hb GE133 HB; clear hb hg; obtain ⟨z4_0, z4_1, z4_2, z4_3⟩ := ca4 BK133; obtain ⟨f4_0, f4_1, f4_2, f4_3⟩ := fa4 BK133))
 (try refine ap ?_)
 go_cut [5] (fun v5 wc => ∃ (kq : Nat) (x5_1 : Bool), v5 = .bool x5_1 ∧ Aside0 (spec_CtlOk.j0 kq a0_0 x5_1 a0_0 a0_1 a0_2 a0_3 = some r) ∧ Aside0 (kq ≤ k) ∧ Aside0 (wc.heap[gb133]? = some (.cells #[.int .i64 a0_0, .int .i64 a0_1, .int .u32 a0_2, .int .i64 a0_3] 75 (0, 0))) ∧ Aside0 (Below w.heap.size w wc))
 case first =>
  have H := HC2.out
  clear HC2
  replace H := ieq H
  rcases H with ⟨c5b0, c5b1, H⟩ | ⟨c5, c5b0, c5b1, H⟩
  ·(first | rw [c5b0] | (simp only [i64_w, i32_w]; rw [c5b0]) | (simp only [c5b2, Bool.not_true, Bool.not_false]) | (simp only [c5b1, Bool.not_true, Bool.not_false]) | skip)
   have H' := Aside0.mk H
   clear H
   go_wp2
   go_meet
   case rel => exact ⟨_, ((a0_0 == 0)), ev, H', ⟨om⟩, ⟨bk BK133⟩, ⟨bw⟩⟩
  ·(first | rw [c5b0] | (simp only [i64_w, i32_w]; rw [c5b0]) | (simp only [c5b2, Bool.not_true, Bool.not_false]) | (simp only [c5b1, Bool.not_true, Bool.not_false]) | skip)
   have H' := Aside0.mk H
   clear H
   go_wp2
   go_meet
   case rel => exact ⟨_, ((a0_0 == 3)), ev, H', ⟨om⟩, ⟨bk BK133⟩, ⟨bw⟩⟩
 case rest =>
  clear HC2
  (try clear z4_0 z4_1 z4_2 z4_3)
  (try clear f4_0 f4_1 f4_2 f4_3)
  obtain ⟨kq, x5_1, rfl, HA, HJ1, BK133, HB⟩ := hcut
  cases kq with
  | zero => exact absurd HA.out (by simp [spec_CtlOk.j0])
  | succ kj1 =>
   have H := HA.out
   clear HA
   simp only [spec_CtlOk.j0] at H
   replace H := ib H
   rcases H with ⟨rfl, H⟩ | ⟨rfl, H⟩
   ·replace H := ieq H
    rcases H with ⟨c7b0, c7b1, H⟩ | ⟨c7, c7b0, c7b1, H⟩
    ·replace H := ieq H
     rcases H with ⟨c8b0, c8b1, H⟩ | ⟨c8, c8b0, c8b1, H⟩
     ·obtain rfl := Option.some.inj H
      obtain ⟨z9_0, z9_1, z9_2, z9_3⟩ := ca4 BK133
      obtain ⟨f9_0, f9_1, f9_2, f9_3⟩ := fa4 BK133
      go_wp2
      go_ret
      exact ⟨rt, bw⟩
     ·obtain rfl := Option.some.inj H
      obtain ⟨z10_0, z10_1, z10_2, z10_3⟩ := ca4 BK133
      obtain ⟨f10_0, f10_1, f10_2, f10_3⟩ := fa4 BK133
      go_wp2
      go_ret
      exact ⟨rt, bw⟩
    ·obtain rfl := Option.some.inj H
     obtain ⟨z11_0, z11_1, z11_2, z11_3⟩ := ca4 BK133
     obtain ⟨f11_0, f11_1, f11_2, f11_3⟩ := fa4 BK133
     go_wp2
     go_ret
     exact ⟨rt, bw⟩
   ·replace H := ieq H
    rcases H with ⟨c12b0, c12b1, H⟩ | ⟨c12, c12b0, c12b1, H⟩
    ·replace H := bn H
     obtain ⟨t134, A13, H⟩ := H
     try dsimp only at H
     replace H := ib H
     rcases H with ⟨rfl, H⟩ | ⟨rfl, H⟩
     ·replace H := ieq H
      rcases H with ⟨c15b0, c15b1, H⟩ | ⟨c15, c15b0, c15b1, H⟩
      ·obtain rfl := Option.some.inj H
       try go_wp2
       replace BK133 := bd BK133
       replace HB := hd HB
       refine st 23 (fun w' => CA w' gb133 0 [.int .i64 a0_0, .int .i64 a0_1, .int .u32 a0_2, .int .i64 a0_3]) [] (cx BK133) spec_CtlOk.tab6 spec_CtlOk.bits6 ?_; intro hHeld HT_ HW_
       generalize wc.drew = w16 at BK133 HB hHeld ⊢
       refine pu 0 23 (bl 23 1) ?_
       refine tk 1 24 (bl 23 3) ?_
       refine on_ 2 (some 25) (bl 23 7) (fun K hK => ?_)
       refine gq Tryz.func66 (spec_l04Class.calls _ _ _ A13.out) ?_
       rintro e w' ⟨rfl, ⟨nd, rfl⟩⟩
       refine ⟨_, rfl, ?_⟩
       refine hK.out _ _ (cx BK133) (fun hHeld => ?_)
       clear hK K
       refine nm ?_
       refine pu 3 26 (bl 23 15) ?_
       refine pu 4 27 (bl 23 31) ?_
       refine tk 5 28 (bl 23 63) ?_
       refine pu 6 29 (bl 23 127) ?_
       refine pu 7 30 (bl 23 255) ?_
       refine pu 8 31 (bl 23 511) ?_
       refine pf 9 32 (bl 23 1023) ?_
       refine pf 10 33 (bl 23 2047) ?_
       refine pf 11 34 (bl 23 4095) ?_
       refine pf 12 35 (bl 23 8191) ?_
       refine pf 13 36 (bl 23 16383) ?_
       refine pf 14 37 (bl 23 32767) ?_
       refine pf 15 38 (bl 23 65535) ?_
       refine pu 16 39 (bl 23 131071) ?_
       refine pu 17 40 (bl 23 262143) ?_
       refine pf 18 41 (bl 23 524287) ?_
       refine pf 19 42 (bl 23 1048575) ?_
       refine pf 20 43 (bl 23 2097151) ?_
       refine pu 21 44 (bl 23 4194303) ?_
       refine pu 22 2 (bl 23 8388607) ?_
       refine dn ?_ _
       try go_wp2
       go_ret
       exact ⟨rt, bw⟩
      ·replace H := bn H
       obtain ⟨t135, A17, H⟩ := H
       try dsimp only at H
       replace H := bn H
       obtain ⟨t136, A18, H⟩ := H
       try dsimp only at H
       replace H := ilt H
       rcases H with ⟨c19b0, H⟩ | ⟨c19b0, H⟩
       ·obtain rfl := Option.some.inj H
        try go_wp2
        replace BK133 := bd BK133
        replace HB := hd HB
        refine st 23 (fun w' => CA w' gb133 0 [.int .i64 a0_0, .int .i64 a0_1, .int .u32 a0_2, .int .i64 a0_3]) [] (cx BK133) spec_CtlOk.tab6 spec_CtlOk.bits6 ?_; intro hHeld HT_ HW_
        generalize wc.drew = w20 at BK133 HB hHeld ⊢
        refine pu 0 23 (bl 23 1) ?_
        refine tk 1 24 (bl 23 3) ?_
        refine on_ 2 (some 25) (bl 23 7) (fun K hK => ?_)
        refine gq Tryz.func66 (spec_l04Class.calls _ _ _ A13.out) ?_
        rintro e w' ⟨rfl, ⟨nd, rfl⟩⟩
        refine ⟨_, rfl, ?_⟩
        refine hK.out _ _ (cx BK133) (fun hHeld => ?_)
        clear hK K
        refine nm ?_
        refine pu 3 26 (bl 23 15) ?_
        refine pu 4 27 (bl 23 31) ?_
        refine tk 5 28 (bl 23 63) ?_
        refine pu 6 29 (bl 23 127) ?_
        refine pu 7 30 (bl 23 255) ?_
        refine pu 8 31 (bl 23 511) ?_
        refine pu 9 32 (bl 23 1023) ?_
        refine pu 12 35 (bl 23 5119) ?_
        refine tk 10 33 (bl 23 6143) ?_
        refine tk 13 36 (bl 23 14335) ?_
        refine on_ 11 (some 34) (bl 23 16383) (fun K hK => ?_)
        refine gq Tryz.func84 (spec_Highest.calls _ _ _ _ A17.out) ?_
        rintro e w21 ⟨rfl, hb⟩
        refine ⟨_, rfl, ?_⟩
        replace BK133 := b_ BK133 hb
        replace HB := hs hb
        (try clear hb)
        refine hK.out _ _ (cx BK133) (fun hHeld => ?_)
        clear hK K
        refine nm ?_
        refine on_ 14 (some 37) (bl 23 32767) (fun K hK => ?_)
        refine gq Tryz.func85 (spec_PerPage.calls _ _ _ _ A18.out) ?_
        rintro e w' ⟨rfl, ⟨nd, rfl⟩⟩
        refine ⟨_, rfl, ?_⟩
        refine hK.out _ _ (cx BK133) (fun hHeld => ?_)
        clear hK K
        refine nm ?_
        refine pu 15 38 (bl 23 65535) ?_
        refine pu 16 39 (bl 23 131071) ?_
        refine pu 17 40 (bl 23 262143) ?_
        refine pu 18 41 (bl 23 524287) ?_
        refine tk 19 42 (bl 23 1048575) ?_
        refine pu 20 43 (bl 23 2097151) ?_
        refine pu 21 44 (bl 23 4194303) ?_
        refine pu 22 2 (bl 23 8388607) ?_
        refine dn ?_ _
        try go_wp2
        go_ret
        exact ⟨rt, bw⟩
       ·obtain rfl := Option.some.inj H
        try go_wp2
        replace BK133 := bd BK133
        replace HB := hd HB
        refine st 23 (fun w' => CA w' gb133 0 [.int .i64 a0_0, .int .i64 a0_1, .int .u32 a0_2, .int .i64 a0_3]) [] (cx BK133) spec_CtlOk.tab6 spec_CtlOk.bits6 ?_; intro hHeld HT_ HW_
        generalize wc.drew = w22 at BK133 HB hHeld ⊢
        refine pu 0 23 (bl 23 1) ?_
        refine tk 1 24 (bl 23 3) ?_
        refine on_ 2 (some 25) (bl 23 7) (fun K hK => ?_)
        refine gq Tryz.func66 (spec_l04Class.calls _ _ _ A13.out) ?_
        rintro e w' ⟨rfl, ⟨nd, rfl⟩⟩
        refine ⟨_, rfl, ?_⟩
        refine hK.out _ _ (cx BK133) (fun hHeld => ?_)
        clear hK K
        refine nm ?_
        refine pu 3 26 (bl 23 15) ?_
        refine pu 4 27 (bl 23 31) ?_
        refine tk 5 28 (bl 23 63) ?_
        refine pu 6 29 (bl 23 127) ?_
        refine pu 7 30 (bl 23 255) ?_
        refine pu 8 31 (bl 23 511) ?_
        refine pu 9 32 (bl 23 1023) ?_
        refine pu 12 35 (bl 23 5119) ?_
        refine tk 10 33 (bl 23 6143) ?_
        refine tk 13 36 (bl 23 14335) ?_
        refine on_ 11 (some 34) (bl 23 16383) (fun K hK => ?_)
        refine gq Tryz.func84 (spec_Highest.calls _ _ _ _ A17.out) ?_
        rintro e w23 ⟨rfl, hb⟩
        refine ⟨_, rfl, ?_⟩
        replace BK133 := b_ BK133 hb
        replace HB := hs hb
        (try clear hb)
        refine hK.out _ _ (cx BK133) (fun hHeld => ?_)
        clear hK K
        refine nm ?_
        refine on_ 14 (some 37) (bl 23 32767) (fun K hK => ?_)
        refine gq Tryz.func85 (spec_PerPage.calls _ _ _ _ A18.out) ?_
        rintro e w' ⟨rfl, ⟨nd, rfl⟩⟩
        refine ⟨_, rfl, ?_⟩
        refine hK.out _ _ (cx BK133) (fun hHeld => ?_)
        clear hK K
        refine nm ?_
        refine pu 15 38 (bl 23 65535) ?_
        refine pu 16 39 (bl 23 131071) ?_
        refine pu 17 40 (bl 23 262143) ?_
        refine pf 18 41 (bl 23 524287) ?_
        refine pf 19 42 (bl 23 1048575) ?_
        refine pf 20 43 (bl 23 2097151) ?_
        refine pu 21 44 (bl 23 4194303) ?_
        refine pu 22 2 (bl 23 8388607) ?_
        refine dn ?_ _
        try go_wp2
        go_ret
        exact ⟨rt, bw⟩
     ·obtain rfl := Option.some.inj H
      try go_wp2
      replace BK133 := bd BK133
      replace HB := hd HB
      refine st 23 (fun w' => CA w' gb133 0 [.int .i64 a0_0, .int .i64 a0_1, .int .u32 a0_2, .int .i64 a0_3]) [] (cx BK133) spec_CtlOk.tab6 spec_CtlOk.bits6 ?_; intro hHeld HT_ HW_
      generalize wc.drew = w24 at BK133 HB hHeld ⊢
      refine pu 0 23 (bl 23 1) ?_
      refine tk 1 24 (bl 23 3) ?_
      refine on_ 2 (some 25) (bl 23 7) (fun K hK => ?_)
      refine gq Tryz.func66 (spec_l04Class.calls _ _ _ A13.out) ?_
      rintro e w' ⟨rfl, ⟨nd, rfl⟩⟩
      refine ⟨_, rfl, ?_⟩
      refine hK.out _ _ (cx BK133) (fun hHeld => ?_)
      clear hK K
      refine nm ?_
      refine pu 3 26 (bl 23 15) ?_
      refine pf 4 27 (bl 23 31) ?_
      refine pf 5 28 (bl 23 63) ?_
      refine pf 6 29 (bl 23 127) ?_
      refine pu 7 30 (bl 23 255) ?_
      refine pu 8 31 (bl 23 511) ?_
      refine pf 9 32 (bl 23 1023) ?_
      refine pf 10 33 (bl 23 2047) ?_
      refine pf 11 34 (bl 23 4095) ?_
      refine pf 12 35 (bl 23 8191) ?_
      refine pf 13 36 (bl 23 16383) ?_
      refine pf 14 37 (bl 23 32767) ?_
      refine pf 15 38 (bl 23 65535) ?_
      refine pu 16 39 (bl 23 131071) ?_
      refine pu 17 40 (bl 23 262143) ?_
      refine pf 18 41 (bl 23 524287) ?_
      refine pf 19 42 (bl 23 1048575) ?_
      refine pf 20 43 (bl 23 2097151) ?_
      refine pu 21 44 (bl 23 4194303) ?_
      refine pu 22 2 (bl 23 8388607) ?_
      refine dn ?_ _
      try go_wp2
      go_ret
      exact ⟨rt, bw⟩
    ·replace H := ieq H
     rcases H with ⟨c25b0, c25b1, H⟩ | ⟨c25, c25b0, c25b1, H⟩
     ·replace H := ieq H
      rcases H with ⟨c26b0, c26b1, H⟩ | ⟨c26, c26b0, c26b1, H⟩
      ·replace H := ieq H
       rcases H with ⟨c27b0, c27b1, H⟩ | ⟨c27, c27b0, c27b1, H⟩
       ·replace H := ige H
        rcases H with ⟨c28b0, H⟩ | ⟨c28b0, H⟩
        ·obtain rfl := Option.some.inj H
         obtain ⟨z29_0, z29_1, z29_2, z29_3⟩ := ca4 BK133
         obtain ⟨f29_0, f29_1, f29_2, f29_3⟩ := fa4 BK133
         go_wp2
         go_ret
         exact ⟨rt, bw⟩
        ·obtain rfl := Option.some.inj H
         obtain ⟨z30_0, z30_1, z30_2, z30_3⟩ := ca4 BK133
         obtain ⟨f30_0, f30_1, f30_2, f30_3⟩ := fa4 BK133
         go_wp2
         go_ret
         exact ⟨rt, bw⟩
       ·obtain rfl := Option.some.inj H
        obtain ⟨z31_0, z31_1, z31_2, z31_3⟩ := ca4 BK133
        obtain ⟨f31_0, f31_1, f31_2, f31_3⟩ := fa4 BK133
        go_wp2
        go_ret
        exact ⟨rt, bw⟩
      ·obtain rfl := Option.some.inj H
       obtain ⟨z32_0, z32_1, z32_2, z32_3⟩ := ca4 BK133
       obtain ⟨f32_0, f32_1, f32_2, f32_3⟩ := fa4 BK133
       go_wp2
       go_ret
       exact ⟨rt, bw⟩
     ·obtain rfl := Option.some.inj H
      go_wp2
      go_ret
      exact ⟨rt, bw⟩

end Go.Proofs.YtobboonnfocalaaGreatDoor.PG1
namespace Go.Proofs.YtobboonnfocalaaGreatDoor.PG1
open Go.RowKit Go.Proofs.YtobboonnfocalaaGreatDoorW.PrintWords Go.Proofs.YtobboonnfocalaaGreatDoorW.PrintLast Go.Proofs.YtobboonnfocalaaGreatDoorW.PrintMore Go.Proofs.YtobboonnfocalaaGreatDoor.T
attribute [local go_sem] max2_int min2_int max_two min_two max_three min_three max_four min_four   -- for this text's walks alone
set_option linter.unusedVariables false
set_option linter.unusedSimpArgs false

/-! ### spec_CtlRead: function 36 -/
def spec_CtlRead.f (k : Nat) (a0 : Int) : Option (Int × Int × Int × Int × Bool) := (spec_CtlOk.f k (Int.tmod (wrap64 (Int.tdiv (wrap64 (a0)) 1048576)) 16) (Int.tmod (wrap64 (Int.tdiv (wrap64 (a0)) 65536)) 16) ((Int.tmod (wrap64 (a0)) 65536) % 4294967296) (wrap64 (Int.tdiv (wrap64 (a0)) 16777216))).bind fun t139 => (if t139 = true then (some (Int.tmod (wrap64 (Int.tdiv (wrap64 (a0)) 1048576)) 16, Int.tmod (wrap64 (Int.tdiv (wrap64 (a0)) 65536)) 16, (Int.tmod (wrap64 (a0)) 65536) % 4294967296, wrap64 (Int.tdiv (wrap64 (a0)) 16777216), true)) else (some (0, 0, 0, 0, false)))
theorem spec_CtlRead.mono : ∀ a0 k, LeO (spec_CtlRead.f k a0) (spec_CtlRead.f (k + 1) a0) := by
 intro a0 k
 unfold spec_CtlRead.f
 repeat' first
  | (with_reducible first | exact spec_CtlOk.mono .. | exact LeO.refl _ | exact LeO.none _ | refine LeO.ite ?_ ?_ | refine LeO.bind ?_ (fun _ => ?_))
  | exact LeO.none _ | refine LeO.ite ?_ ?_ | refine LeO.bind ?_ (fun _ => ?_)
set_option maxHeartbeats 2000000 in
set_option maxRecDepth 100000 in
theorem spec_CtlRead.calls (k : Nat) (a0 : Int) (r1 : Int) (r2 : Int) (r3 : Int) (r4 : Int) (r5 : Bool) (w : World) (h : spec_CtlRead.f k a0 = some (r1, r2, r3, r4, r5)) :
  Calls Tryz.prog 36 #[.int .u32 a0] w fun e w' => e = .returned (.tuple #[.agg #[.int .i64 r1, .int .i64 r2, .int .u32 r3, .int .i64 r4], .bool r5]) ∧ Below w.heap.size w w' := by
 have hu75 := Tryz.underlying75
 have HB := Aside0.mk (Below.refl w.heap.size w)
 unfold spec_CtlRead.f at h
 have H := h
 clear h
 replace H := bn H
 obtain ⟨t139, A2, H⟩ := H
 try dsimp only at H
 have HU3 := Aside0.mk H
 clear H
 go_enter Tryz.func36, Tryz.ntmps36
 go_upto_if 22 with (first | ((with_reducible refine gd 2 ?_); refine bx 2 75 #[.int .i64 0, .int .i64 0, .int .u32 0, .int .i64 0] ?_; clear HB; intro gb137 w4 hg BK137 hb GE137 HB; clear hb hg) | ((with_reducible refine gd 5 ?_); refine bx 5 75 #[.int .i64 0, .int .i64 0, .int .u32 0, .int .i64 0] ?_; clear HB; intro gb138 w5 hg BK138 hb GE138 HB; have NB137_138 := nl BK137 hg; have NB138_137 := ng BK137 hg; replace BK137 := b_ BK137 hb; clear hb hg; have hnb6 := NB138_137.out; have hnc6 := NB137_138.out; obtain ⟨z7_0, z7_1, z7_2, z7_3⟩ := ca4 BK138; obtain ⟨f7_0, f7_1, f7_2, f7_3⟩ := fa4 BK138) | ((with_reducible refine gf 64 ?_); refine gc Tryz.func64 (some 21) (spec_CtlOk.calls _ _ _ _ _ _ _ A2.out) ?_; rintro e w8 ⟨rfl, hb⟩; refine ⟨_, rfl, ?_⟩; replace BK137 := b_ BK137 hb; replace BK138 := bq BK138 #[.int .i64 (Int.tmod (wrap64 (Int.tdiv (wrap64 (a0)) 1048576)) 16), .int .i64 (Int.tmod (wrap64 (Int.tdiv (wrap64 (a0)) 65536)) 16), .int .u32 ((Int.tmod (wrap64 (a0)) 65536) % 4294967296), .int .i64 (wrap64 (Int.tdiv (wrap64 (a0)) 16777216))] hb; replace HB := hs hb; try clear hb))
 (try refine ap ?_)
 have H := HU3.out
 clear HU3
 replace H := ib H
 rcases H with ⟨rfl, H⟩ | ⟨rfl, H⟩
 ·(try simp only [Bool.not_true, Bool.not_false])
  simp only [Option.some.injEq, Prod.mk.injEq] at H
  obtain ⟨rfl, rfl, rfl, rfl, rfl⟩ := H
  have hnb10 := NB138_137.out
  have hnc10 := NB137_138.out
  obtain ⟨z11_0, z11_1, z11_2, z11_3⟩ := ca4 BK138
  obtain ⟨f11_0, f11_1, f11_2, f11_3⟩ := fa4 BK138
  obtain ⟨z12_0, z12_1, z12_2, z12_3⟩ := ca4 BK137
  obtain ⟨f12_0, f12_1, f12_2, f12_3⟩ := fa4 BK137
  go_wp2
  refine bodyPost_ret (results_ct rfl _ _ gb137 75 #[.int .i64 (Int.tmod (wrap64 (Int.tdiv (wrap64 (a0)) 1048576)) 16), .int .i64 (Int.tmod (wrap64 (Int.tdiv (wrap64 (a0)) 65536)) 16), .int .u32 ((Int.tmod (wrap64 (a0)) 65536) % 4294967296), .int .i64 (wrap64 (Int.tdiv (wrap64 (a0)) 16777216))] (0, 0) _ rfl (bp BK137) Tryz.underlying75 rfl kr) rfl ?_
  exact ⟨rt, bw⟩
 ·(try simp only [Bool.not_true, Bool.not_false])
  simp only [Option.some.injEq, Prod.mk.injEq] at H
  obtain ⟨rfl, rfl, rfl, rfl, rfl⟩ := H
  have hnb13 := NB137_138.out
  have hnc13 := NB138_137.out
  obtain ⟨z14_0, z14_1, z14_2, z14_3⟩ := ca4 BK137
  obtain ⟨f14_0, f14_1, f14_2, f14_3⟩ := fa4 BK137
  go_wp2
  refine bodyPost_ret (results_ct rfl _ _ gb137 75 #[.int .i64 0, .int .i64 0, .int .u32 0, .int .i64 0] (0, 0) _ rfl (bp BK137) Tryz.underlying75 rfl kr) rfl ?_
  exact ⟨rt, bw⟩

/-! ### spec_l07MemOk: function 33 -/
def spec_l07MemOk.l0 : Nat → Int → List Int → Option (Bool)
 | 0, _, _ => none
 | k + 1, x3, x141000 => if x3 < (x141000.length : Int) then (if 0 ≤ x3 then ((spec_CtlRead.f k (rd x141000 x3)).bind fun bt142 => (if bt142.2.2.2.2 = true then (spec_l07MemOk.l0 k (wrap64 (x3 + 1)) x141000) else (some false))) else (none)) else (some true)
def spec_l07MemOk.f (k : Nat) (l0_0 : List Int) : Option (Bool) := if (l0_0.length : Int) > 16 then (some false) else (spec_l07MemOk.l0 k 0 l0_0)
theorem spec_l07MemOk.mono_l : ∀ k, (∀ y0 y1, LeO (spec_l07MemOk.l0 k y0 y1) (spec_l07MemOk.l0 (k + 1) y0 y1))
 | 0 => fun _ _ r h => by simp [spec_l07MemOk.l0] at h
 | k + 1 => by
  have ih0 := spec_l07MemOk.mono_l k
  ·intro y0 y1
   unfold spec_l07MemOk.l0
   repeat' first
    | (with_reducible first | exact ih0 .. | exact spec_CtlRead.mono .. | exact LeO.refl _ | exact LeO.none _ | refine LeO.ite ?_ ?_ | refine LeO.bind ?_ (fun _ => ?_))
    | exact LeO.none _ | refine LeO.ite ?_ ?_ | refine LeO.bind ?_ (fun _ => ?_)
theorem spec_l07MemOk.mono : ∀ a0 k, LeO (spec_l07MemOk.f k a0) (spec_l07MemOk.f (k + 1) a0) := by
 intro a0 k
 have ih0 := spec_l07MemOk.mono_l k
 unfold spec_l07MemOk.f
 repeat' first
  | (with_reducible first | exact ih0 .. | exact spec_CtlRead.mono .. | exact LeO.refl _ | exact LeO.none _ | refine LeO.ite ?_ ?_ | refine LeO.bind ?_ (fun _ => ?_))
  | exact LeO.none _ | refine LeO.ite ?_ ?_ | refine LeO.bind ?_ (fun _ => ?_)
set_option maxHeartbeats 2000000 in
set_option maxRecDepth 100000 in
theorem spec_l07MemOk.calls (k : Nat) (A0_0 : Option Addr) (c0_0 : Nat) (l0_0 : List Int) (r : Bool) (w : World) (hr0_0 : Kd.C (Kd.int .u32) w A0_0 l0_0.length l0_0) (hc0_0 : l0_0.length ≤ c0_0) (h : spec_l07MemOk.f k l0_0 = some r) :
  Calls Tryz.prog 33 #[.agg #[.slice A0_0 l0_0.length c0_0]] w fun e w' => e = .returned (.bool r) ∧ Below w.heap.size w w' := by
 have hu34 := Tryz.underlying34
 have hu75 := Tryz.underlying75
 have HR0_0 := Aside0.mk hr0_0
 have HC0_0 := Aside0.mk hc0_0
 clear hr0_0 hc0_0
 have HB := Aside0.mk (Below.refl w.heap.size w)
 unfold spec_l07MemOk.f at h
 have H := h
 clear h
 have HU2 := Aside0.mk H
 clear H
 go_enter Tryz.func33, Tryz.ntmps33
 go_upto_if 9 with (first | ((with_reducible refine gd 1 ?_); refine bx 1 34 #[.slice A0_0 l0_0.length c0_0] ?_; clear HB; intro gb140 w3 hg BK140 hb GE140 HB; clear hb hg; have z4_0 := ca1 BK140; have f4_0 := blk_frozen BK140.out 0))
 (try refine ap ?_)
 have H := HU2.out
 clear HU2
 by_cases c5 : (l0_0.length : Int) > 16
 ·rw [if_pos c5] at H
  have c5b0 : decide (16 < (l0_0.length : Int)) = true := decide_eq_true c5
  have c5b1 : decide (16 < l0_0.length) = true := decide_eq_true (by omega)
  clear c5
  (first | rw [c5b0] | (simp only [i64_w, i32_w]; rw [c5b0]) | (simp only [c5b2, Bool.not_true, Bool.not_false]) | (simp only [c5b1, Bool.not_true, Bool.not_false]) | skip)
  obtain rfl := Option.some.inj H
  go_wp2
  go_ret
  exact ⟨rt, bw⟩
 ·rw [if_neg c5] at H
  have c5b0 : decide (16 < (l0_0.length : Int)) = false := decide_eq_false c5
  have c5b1 : decide (16 < l0_0.length) = false := decide_eq_false (by omega)
  clear c5
  (first | rw [c5b0] | (simp only [i64_w, i32_w]; rw [c5b0]) | (simp only [c5b2, Bool.not_true, Bool.not_false]) | (simp only [c5b1, Bool.not_true, Bool.not_false]) | skip)
  have H' := Aside0.mk H
  clear H
  go_wp2
  go_loopg [3] k (fun kq v3 w' => ∃ (x3_1 : Int), v3 = .int .i64 x3_1 ∧ Aside0 (spec_l07MemOk.l0 kq x3_1 l0_0 = some r) ∧ Aside0 (kq ≤ k) ∧ Aside0 (w'.heap[gb140]? = some (.cells #[(.slice A0_0 l0_0.length c0_0)] 34 (0, 0))) ∧ Aside0 (Below w.heap.size w w'))
  case atStart => exact ⟨(0), ev, H', ⟨Nat.le_refl _⟩, ⟨bk BK140⟩, ⟨bw⟩⟩
  case round =>
   clear H'
   try clear c5
   try clear c5b0
   try clear c5b1
   try clear c5b2
   (try clear z4_0)
   (try clear f4_0)
   obtain ⟨x3_1, rfl, HA, HK1, BK140, HB⟩ := hrel
   cases gk with
   | zero => exact absurd HA.out (by simp [spec_l07MemOk.l0])
   | succ k1 =>
    have H := HA.out
    clear HA
    simp only [spec_l07MemOk.l0] at H
    replace H := ilt H
    rcases H with ⟨c6b0, H⟩ | ⟨c6b0, H⟩
    ·by_cases c7 : 0 ≤ x3_1
     ·rw [if_pos c7] at H
      have c7b0 : decide (0 ≤ x3_1) = true := decide_eq_true c7
      clear c7
      replace H := bn H
      obtain ⟨⟨t142, t143, t144, t145, t146⟩, A8, H⟩ := H
      try dsimp only at H
      have HU9 := Aside0.mk H
      clear H
      have z10_0 := ca1 BK140
      have f10_0 := blk_frozen BK140.out 0
      have p141 : 0 ≤ (x3_1 : Int) := of_decide_eq_true as_
      have q141 : x3_1 < (l0_0.length : Int) := of_decide_eq_true as_
      obtain ⟨ad141, e141, hx141_0⟩ := Kd.at_int HR0_0.out x3_1 p141 q141
      cases e141
      replace hx141_0 := cl HB hx141_0
      replace p141 := eq_true p141
      replace q141 := eq_true q141
      go_upto_if 27 with (first | ((with_reducible refine gf 36 ?_); refine gc Tryz.func36 (some 23) (spec_CtlRead.calls _ _ _ _ _ _ _ _ A8.out) ?_; rintro e w11 ⟨rfl, hb⟩; refine ⟨_, rfl, ?_⟩; replace BK140 := b_ BK140 hb; replace HB := hs hb; try clear hb) | ((with_reducible refine gd 4 ?_); refine bx 4 75 #[.int .i64 0, .int .i64 0, .int .u32 0, .int .i64 0] ?_; clear HB; intro gb147 w12 hg BK147 hb GE147 HB; have NB140_147 := nl BK140 hg; have NB147_140 := ng BK140 hg; replace BK140 := b_ BK140 hb; clear hb hg; have hnb13 := NB147_140.out; have hnc13 := NB140_147.out; obtain ⟨z14_0, z14_1, z14_2, z14_3⟩ := ca4 BK147; obtain ⟨f14_0, f14_1, f14_2, f14_3⟩ := fa4 BK147))
      (try refine ap ?_)
      have H := HU9.out
      clear HU9
      replace H := ib H
      rcases H with ⟨rfl, H⟩ | ⟨rfl, H⟩
      ·(try simp only [Bool.not_true, Bool.not_false])
       have H' := Aside0.mk H
       clear H
       go_wp2
       go_roundg k1
       case measure => have := HK1.out; omega
       case rel => exact ⟨(wrap64 (x3_1 + 1)), ev, H', ⟨oa HK1⟩, ⟨bk BK140⟩, ⟨bw⟩⟩
      ·(try simp only [Bool.not_true, Bool.not_false])
       obtain rfl := Option.some.inj H
       go_wp2
       go_ret
       exact ⟨rt, bw⟩
     ·rw [if_neg c7] at H
      exact absurd H (by simp)
    ·obtain rfl := Option.some.inj H
     have z16_0 := ca1 BK140
     have f16_0 := blk_frozen BK140.out 0
     go_wp2
     go_ret
     exact ⟨rt, bw⟩

/-! ### spec_l03Row: function 55 -/
def spec_l03Row.f (l0 : List Int) : Option (Bool) := some ((l0.length : Int) == 8)
set_option maxHeartbeats 2000000 in
set_option maxRecDepth 100000 in
theorem spec_l03Row.calls (A0 : Option Addr) (c0 : Nat) (l0 : List Int) (r : Bool) (w : World) (hr0 : Kd.C (Kd.int .i64) w A0 l0.length l0) (hc0 : l0.length ≤ c0) (h : spec_l03Row.f l0 = some r) :
  Calls Tryz.prog 55 #[.slice A0 l0.length c0] w fun e w' => e = .returned (.bool r) ∧ Drawn0 w w' := by
 have HR0 := Aside0.mk hr0
 have HC0 := Aside0.mk hc0
 clear hr0 hc0
 unfold spec_l03Row.f at h
 have H := h
 clear h
 obtain rfl := Option.some.inj H
 go_enter Tryz.func55, Tryz.ntmps55
 go_wp2
 go_ret
 exact ⟨ev, dr⟩

/-! ### spec_l03Mask: function 56 -/
def spec_l03Mask.f (k : Nat) (a0 : Int) : Option (Bool) := (spec_Highest.f k a0).bind fun t148 => (some (decide (t148 < 8)))
theorem spec_l03Mask.mono : ∀ a0 k, LeO (spec_l03Mask.f k a0) (spec_l03Mask.f (k + 1) a0) := by
 intro a0 k
 unfold spec_l03Mask.f
 repeat' first
  | (with_reducible first | exact spec_Highest.mono .. | exact LeO.refl _ | exact LeO.none _ | refine LeO.ite ?_ ?_ | refine LeO.bind ?_ (fun _ => ?_))
  | exact LeO.none _ | refine LeO.ite ?_ ?_ | refine LeO.bind ?_ (fun _ => ?_)
set_option maxHeartbeats 2000000 in
set_option maxRecDepth 100000 in
theorem spec_l03Mask.calls (k : Nat) (a0 : Int) (r : Bool) (w : World) (h : spec_l03Mask.f k a0 = some r) :
  Calls Tryz.prog 56 #[.int .u32 a0] w fun e w' => e = .returned (.bool r) ∧ Below w.heap.size w w' := by
 have HB := Aside0.mk (Below.refl w.heap.size w)
 unfold spec_l03Mask.f at h
 have H := h
 clear h
 replace H := bn H
 obtain ⟨t148, A2, H⟩ := H
 try dsimp only at H
 obtain rfl := Option.some.inj H
 go_enter Tryz.func56, Tryz.ntmps56
 go_wp2_with (first | ((with_reducible refine gf 84 ?_); refine gc Tryz.func84 (some 4) (spec_Highest.calls _ _ _ _ A2.out) ?_; rintro e w3 ⟨rfl, hb⟩; refine ⟨_, rfl, ?_⟩; replace HB := hs hb; try clear hb))
 go_ret
 exact ⟨rt, bw⟩

/-! ### spec_ReqOk: function 57 -/
mutual
def spec_ReqOk.j0 : Nat → Bool → Int → List Int → Option (Bool)
 | 0, _, _, _ => none
 | k + 1, x18, x150000, x150001 => if x18 = true then (some false) else (spec_ReqOk.l0 k 0 x150000 x150001)
def spec_ReqOk.l0 : Nat → Int → Int → List Int → Option (Bool)
 | 0, _, _, _ => none
 | k + 1, x3, x150000, x150001 => if x3 < (x150001.length : Int) then (if 0 ≤ x3 then (if x150000 = 1 then (if (rd x150001 x3) < 0 then (some false) else (if (rd x150001 x3) > 256 then (some false) else (if x150000 = 2 then (if (rd x150001 x3) < (-1) then (some false) else (if (rd x150001 x3) > 4095 then (some false) else (spec_ReqOk.l0 k (wrap64 (x3 + 1)) x150000 x150001))) else (spec_ReqOk.l0 k (wrap64 (x3 + 1)) x150000 x150001)))) else (if x150000 = 2 then (if (rd x150001 x3) < (-1) then (some false) else (if (rd x150001 x3) > 4095 then (some false) else (spec_ReqOk.l0 k (wrap64 (x3 + 1)) x150000 x150001))) else (spec_ReqOk.l0 k (wrap64 (x3 + 1)) x150000 x150001))) else (none)) else (some true)
end
def spec_ReqOk.f (k : Nat) (a0_0 : Int) (l0_1 : List Int) : Option (Bool) := if (l0_1.length : Int) = 8 then (if a0_0 = 1 then (spec_ReqOk.j0 k false a0_0 l0_1) else (spec_ReqOk.j0 k (a0_0 != 2) a0_0 l0_1)) else (spec_ReqOk.j0 k true a0_0 l0_1)
theorem spec_ReqOk.mono_l : ∀ k, (∀ y0 y1 y2, LeO (spec_ReqOk.j0 k y0 y1 y2) (spec_ReqOk.j0 (k + 1) y0 y1 y2)) ∧ (∀ y0 y1 y2, LeO (spec_ReqOk.l0 k y0 y1 y2) (spec_ReqOk.l0 (k + 1) y0 y1 y2))
 | 0 => ⟨fun _ _ _ r h => by simp [spec_ReqOk.j0] at h, fun _ _ _ r h => by simp [spec_ReqOk.l0] at h⟩
 | k + 1 => by
  obtain ⟨ih0, ih1⟩ := spec_ReqOk.mono_l k
  refine ⟨?_, ?_⟩
  ·intro y0 y1 y2
   unfold spec_ReqOk.j0
   repeat' first
    | (with_reducible first | exact ih0 .. | exact ih1 .. | exact LeO.refl _ | exact LeO.none _ | refine LeO.ite ?_ ?_ | refine LeO.bind ?_ (fun _ => ?_))
    | exact LeO.none _ | refine LeO.ite ?_ ?_ | refine LeO.bind ?_ (fun _ => ?_)
  ·intro y0 y1 y2
   unfold spec_ReqOk.l0
   repeat' first
    | (with_reducible first | exact ih0 .. | exact ih1 .. | exact LeO.refl _ | exact LeO.none _ | refine LeO.ite ?_ ?_ | refine LeO.bind ?_ (fun _ => ?_))
    | exact LeO.none _ | refine LeO.ite ?_ ?_ | refine LeO.bind ?_ (fun _ => ?_)
theorem spec_ReqOk.mono : ∀ a0 a1 k, LeO (spec_ReqOk.f k a0 a1) (spec_ReqOk.f (k + 1) a0 a1) := by
 intro a0 a1 k
 obtain ⟨ih0, ih1⟩ := spec_ReqOk.mono_l k
 unfold spec_ReqOk.f
 repeat' first
  | (with_reducible first | exact ih0 .. | exact ih1 .. | exact LeO.refl _ | exact LeO.none _ | refine LeO.ite ?_ ?_ | refine LeO.bind ?_ (fun _ => ?_))
  | exact LeO.none _ | refine LeO.ite ?_ ?_ | refine LeO.bind ?_ (fun _ => ?_)
set_option maxHeartbeats 2000000 in
set_option maxRecDepth 100000 in
theorem spec_ReqOk.calls (k : Nat) (a0_0 : Int) (A0_1 : Option Addr) (c0_1 : Nat) (l0_1 : List Int) (r : Bool) (w : World) (hr0_1 : Kd.C (Kd.int .i64) w A0_1 l0_1.length l0_1) (hc0_1 : l0_1.length ≤ c0_1) (h : spec_ReqOk.f k a0_0 l0_1 = some r) :
  Calls Tryz.prog 57 #[.agg #[.int .i64 a0_0, .slice A0_1 l0_1.length c0_1]] w fun e w' => e = .returned (.bool r) ∧ Below w.heap.size w w' := by
 have hu31 := Tryz.underlying31
 have HR0_1 := Aside0.mk hr0_1
 have HC0_1 := Aside0.mk hc0_1
 clear hr0_1 hc0_1
 have HB := Aside0.mk (Below.refl w.heap.size w)
 unfold spec_ReqOk.f at h
 have H := h
 clear h
 have HC2 := Aside0.mk H
 clear H
 go_enter Tryz.func57, Tryz.ntmps57
 go_upto_region 1 with (first | ((with_reducible refine gd 1 ?_); refine bx 1 31 #[.int .i64 a0_0, .slice A0_1 l0_1.length c0_1] ?_; clear HB; intro gb149 w3 hg BK149 hb GE149 HB; clear hb hg))
 (try refine ap ?_)
 go_cut [18] (fun v18 wc => ∃ (kq : Nat) (x18_1 : Bool), v18 = .bool x18_1 ∧ Aside0 (spec_ReqOk.j0 kq x18_1 a0_0 l0_1 = some r) ∧ Aside0 (kq ≤ k) ∧ Aside0 (wc.heap[gb149]? = some (.cells #[.int .i64 a0_0, (.slice A0_1 l0_1.length c0_1)] 31 (0, 0))) ∧ Aside0 (Below w.heap.size w wc))
 case first =>
  have H := HC2.out
  clear HC2
  by_cases c4 : (l0_1.length : Int) = 8
  ·rw [if_pos c4] at H
   have c4b0 : ((l0_1.length : Int) == 8) = true := beq_iff_eq.mpr c4
   have c4b1 : ((l0_1.length : Int) != 8) = false := bne_eq_false_iff_eq.mpr c4
   clear c4
   (first | rw [c4b0] | (simp only [i64_w, i32_w]; rw [c4b0]) | (simp only [c4b2, Bool.not_true, Bool.not_false]) | (simp only [c4b1, Bool.not_true, Bool.not_false]) | skip)
   replace H := ieq H
   rcases H with ⟨c5b0, c5b1, H⟩ | ⟨c5, c5b0, c5b1, H⟩
   ·have H' := Aside0.mk H
    clear H
    obtain ⟨z6_0, z6_1⟩ := ca2 BK149
    obtain ⟨f6_0, f6_1⟩ := fa2 BK149
    go_wp2
    go_meet
    case rel => exact ⟨_, (false), ev, H', ⟨om⟩, ⟨bk BK149⟩, ⟨bw⟩⟩
   ·have H' := Aside0.mk H
    clear H
    obtain ⟨z7_0, z7_1⟩ := ca2 BK149
    obtain ⟨f7_0, f7_1⟩ := fa2 BK149
    go_wp2
    go_meet
    case rel => exact ⟨_, ((a0_0 != 2)), ev, H', ⟨om⟩, ⟨bk BK149⟩, ⟨bw⟩⟩
  ·rw [if_neg c4] at H
   have c4b0 : ((l0_1.length : Int) == 8) = false := beq_eq_false_iff_ne.mpr c4
   have c4b1 : ((l0_1.length : Int) != 8) = true := bne_iff_ne.mpr c4
   (first | rw [c4b0] | (simp only [i64_w, i32_w]; rw [c4b0]) | (simp only [c4b2, Bool.not_true, Bool.not_false]) | (simp only [c4b1, Bool.not_true, Bool.not_false]) | skip)
   have H' := Aside0.mk H
   clear H
   obtain ⟨z8_0, z8_1⟩ := ca2 BK149
   obtain ⟨f8_0, f8_1⟩ := fa2 BK149
   go_wp2
   go_meet
   case rel => exact ⟨_, (true), ev, H', ⟨om⟩, ⟨bk BK149⟩, ⟨bw⟩⟩
 case rest =>
  clear HC2
  obtain ⟨kq, x18_1, rfl, HA, HJ1, BK149, HB⟩ := hcut
  cases kq with
  | zero => exact absurd HA.out (by simp [spec_ReqOk.j0])
  | succ kj1 =>
   have H := HA.out
   clear HA
   simp only [spec_ReqOk.j0] at H
   replace H := ib H
   rcases H with ⟨rfl, H⟩ | ⟨rfl, H⟩
   ·obtain rfl := Option.some.inj H
    go_wp2
    go_ret
    exact ⟨rt, bw⟩
   ·have H' := Aside0.mk H
    clear H
    go_wp2
    go_loopg [3] kj1 (fun kq v3 w' => ∃ (x3_2 : Int), v3 = .int .i64 x3_2 ∧ Aside0 (spec_ReqOk.l0 kq x3_2 a0_0 l0_1 = some r) ∧ Aside0 (kq ≤ kj1) ∧ Aside0 (w'.heap[gb149]? = some (.cells #[.int .i64 a0_0, (.slice A0_1 l0_1.length c0_1)] 31 (0, 0))) ∧ Aside0 (Below w.heap.size w w'))
    case atStart => exact ⟨(0), ev, H', ⟨Nat.le_refl _⟩, ⟨bk BK149⟩, ⟨bw⟩⟩
    case round =>
     clear H'
     try clear c9
     obtain ⟨x3_2, rfl, HA, HK2, BK149, HB⟩ := hrel
     cases gk with
     | zero => exact absurd HA.out (by simp [spec_ReqOk.l0])
     | succ k2 =>
      have H := HA.out
      clear HA
      simp only [spec_ReqOk.l0] at H
      replace H := ilt H
      rcases H with ⟨c10b0, H⟩ | ⟨c10b0, H⟩
      ·by_cases c11 : 0 ≤ x3_2
       ·rw [if_pos c11] at H
        have c11b0 : decide (0 ≤ x3_2) = true := decide_eq_true c11
        clear c11
        replace H := ieq H
        rcases H with ⟨c12b0, c12b1, H⟩ | ⟨c12, c12b0, c12b1, H⟩
        ·replace H := ilt H
         rcases H with ⟨c13b0, H⟩ | ⟨c13b0, H⟩
         ·obtain rfl := Option.some.inj H
          obtain ⟨z14_0, z14_1⟩ := ca2 BK149
          obtain ⟨f14_0, f14_1⟩ := fa2 BK149
          have p150 : 0 ≤ (x3_2 : Int) := of_decide_eq_true as_
          have q150 : x3_2 < (l0_1.length : Int) := of_decide_eq_true as_
          obtain ⟨ad150, e150, hx150_0⟩ := Kd.at_int HR0_1.out x3_2 p150 q150
          cases e150
          replace hx150_0 := cl HB hx150_0
          replace p150 := eq_true p150
          replace q150 := eq_true q150
          go_wp2
          go_ret
          exact ⟨rt, bw⟩
         ·replace H := igt H
          rcases H with ⟨c15b0, H⟩ | ⟨c15b0, H⟩
          ·obtain rfl := Option.some.inj H
           obtain ⟨z16_0, z16_1⟩ := ca2 BK149
           obtain ⟨f16_0, f16_1⟩ := fa2 BK149
           have p150 : 0 ≤ (x3_2 : Int) := of_decide_eq_true as_
           have q150 : x3_2 < (l0_1.length : Int) := of_decide_eq_true as_
           obtain ⟨ad150, e150, hx150_0⟩ := Kd.at_int HR0_1.out x3_2 p150 q150
           cases e150
           replace hx150_0 := cl HB hx150_0
           replace p150 := eq_true p150
           replace q150 := eq_true q150
           go_wp2
           go_ret
           exact ⟨rt, bw⟩
          ·replace H := ieq H
           rcases H with ⟨c17b0, c17b1, H⟩ | ⟨c17, c17b0, c17b1, H⟩
           ·replace H := ilt H
            rcases H with ⟨c18b0, H⟩ | ⟨c18b0, H⟩
            ·obtain rfl := Option.some.inj H
             obtain ⟨z19_0, z19_1⟩ := ca2 BK149
             obtain ⟨f19_0, f19_1⟩ := fa2 BK149
             have p150 : 0 ≤ (x3_2 : Int) := of_decide_eq_true as_
             have q150 : x3_2 < (l0_1.length : Int) := of_decide_eq_true as_
             obtain ⟨ad150, e150, hx150_0⟩ := Kd.at_int HR0_1.out x3_2 p150 q150
             cases e150
             replace hx150_0 := cl HB hx150_0
             replace p150 := eq_true p150
             replace q150 := eq_true q150
             go_wp2
             go_ret
             exact ⟨rt, bw⟩
            ·replace H := igt H
             rcases H with ⟨c20b0, H⟩ | ⟨c20b0, H⟩
             ·obtain rfl := Option.some.inj H
              obtain ⟨z21_0, z21_1⟩ := ca2 BK149
              obtain ⟨f21_0, f21_1⟩ := fa2 BK149
              have p150 : 0 ≤ (x3_2 : Int) := of_decide_eq_true as_
              have q150 : x3_2 < (l0_1.length : Int) := of_decide_eq_true as_
              obtain ⟨ad150, e150, hx150_0⟩ := Kd.at_int HR0_1.out x3_2 p150 q150
              cases e150
              replace hx150_0 := cl HB hx150_0
              replace p150 := eq_true p150
              replace q150 := eq_true q150
              go_wp2
              go_ret
              exact ⟨rt, bw⟩
             ·have H' := Aside0.mk H
              clear H
              obtain ⟨z22_0, z22_1⟩ := ca2 BK149
              obtain ⟨f22_0, f22_1⟩ := fa2 BK149
              have p150 : 0 ≤ (x3_2 : Int) := of_decide_eq_true as_
              have q150 : x3_2 < (l0_1.length : Int) := of_decide_eq_true as_
              obtain ⟨ad150, e150, hx150_0⟩ := Kd.at_int HR0_1.out x3_2 p150 q150
              cases e150
              replace hx150_0 := cl HB hx150_0
              replace p150 := eq_true p150
              replace q150 := eq_true q150
              go_wp2
              go_roundg k2
              case measure => have := HJ1.out; have := HK2.out; omega
              case rel => exact ⟨(wrap64 (x3_2 + 1)), ev, H', ⟨by have := HJ1.out; have := HK2.out; omega⟩, ⟨bk BK149⟩, ⟨bw⟩⟩
           ·have H' := Aside0.mk H
            clear H
            obtain ⟨z23_0, z23_1⟩ := ca2 BK149
            obtain ⟨f23_0, f23_1⟩ := fa2 BK149
            have p150 : 0 ≤ (x3_2 : Int) := of_decide_eq_true as_
            have q150 : x3_2 < (l0_1.length : Int) := of_decide_eq_true as_
            obtain ⟨ad150, e150, hx150_0⟩ := Kd.at_int HR0_1.out x3_2 p150 q150
            cases e150
            replace hx150_0 := cl HB hx150_0
            replace p150 := eq_true p150
            replace q150 := eq_true q150
            go_wp2
            go_roundg k2
            case measure => have := HJ1.out; have := HK2.out; omega
            case rel => exact ⟨(wrap64 (x3_2 + 1)), ev, H', ⟨by have := HJ1.out; have := HK2.out; omega⟩, ⟨bk BK149⟩, ⟨bw⟩⟩
        ·replace H := ieq H
         rcases H with ⟨c24b0, c24b1, H⟩ | ⟨c24, c24b0, c24b1, H⟩
         ·replace H := ilt H
          rcases H with ⟨c25b0, H⟩ | ⟨c25b0, H⟩
          ·obtain rfl := Option.some.inj H
           obtain ⟨z26_0, z26_1⟩ := ca2 BK149
           obtain ⟨f26_0, f26_1⟩ := fa2 BK149
           have p150 : 0 ≤ (x3_2 : Int) := of_decide_eq_true as_
           have q150 : x3_2 < (l0_1.length : Int) := of_decide_eq_true as_
           obtain ⟨ad150, e150, hx150_0⟩ := Kd.at_int HR0_1.out x3_2 p150 q150
           cases e150
           replace hx150_0 := cl HB hx150_0
           replace p150 := eq_true p150
           replace q150 := eq_true q150
           go_wp2
           go_ret
           exact ⟨rt, bw⟩
          ·replace H := igt H
           rcases H with ⟨c27b0, H⟩ | ⟨c27b0, H⟩
           ·obtain rfl := Option.some.inj H
            obtain ⟨z28_0, z28_1⟩ := ca2 BK149
            obtain ⟨f28_0, f28_1⟩ := fa2 BK149
            have p150 : 0 ≤ (x3_2 : Int) := of_decide_eq_true as_
            have q150 : x3_2 < (l0_1.length : Int) := of_decide_eq_true as_
            obtain ⟨ad150, e150, hx150_0⟩ := Kd.at_int HR0_1.out x3_2 p150 q150
            cases e150
            replace hx150_0 := cl HB hx150_0
            replace p150 := eq_true p150
            replace q150 := eq_true q150
            go_wp2
            go_ret
            exact ⟨rt, bw⟩
           ·have H' := Aside0.mk H
            clear H
            obtain ⟨z29_0, z29_1⟩ := ca2 BK149
            obtain ⟨f29_0, f29_1⟩ := fa2 BK149
            have p150 : 0 ≤ (x3_2 : Int) := of_decide_eq_true as_
            have q150 : x3_2 < (l0_1.length : Int) := of_decide_eq_true as_
            obtain ⟨ad150, e150, hx150_0⟩ := Kd.at_int HR0_1.out x3_2 p150 q150
            cases e150
            replace hx150_0 := cl HB hx150_0
            replace p150 := eq_true p150
            replace q150 := eq_true q150
            go_wp2
            go_roundg k2
            case measure => have := HJ1.out; have := HK2.out; omega
            case rel => exact ⟨(wrap64 (x3_2 + 1)), ev, H', ⟨by have := HJ1.out; have := HK2.out; omega⟩, ⟨bk BK149⟩, ⟨bw⟩⟩
         ·have H' := Aside0.mk H
          clear H
          obtain ⟨z30_0, z30_1⟩ := ca2 BK149
          obtain ⟨f30_0, f30_1⟩ := fa2 BK149
          have p150 : 0 ≤ (x3_2 : Int) := of_decide_eq_true as_
          have q150 : x3_2 < (l0_1.length : Int) := of_decide_eq_true as_
          obtain ⟨ad150, e150, hx150_0⟩ := Kd.at_int HR0_1.out x3_2 p150 q150
          cases e150
          replace hx150_0 := cl HB hx150_0
          replace p150 := eq_true p150
          replace q150 := eq_true q150
          go_wp2
          go_roundg k2
          case measure => have := HJ1.out; have := HK2.out; omega
          case rel => exact ⟨(wrap64 (x3_2 + 1)), ev, H', ⟨by have := HJ1.out; have := HK2.out; omega⟩, ⟨bk BK149⟩, ⟨bw⟩⟩
       ·rw [if_neg c11] at H
        exact absurd H (by simp)
      ·obtain rfl := Option.some.inj H
       obtain ⟨z31_0, z31_1⟩ := ca2 BK149
       obtain ⟨f31_0, f31_1⟩ := fa2 BK149
       go_wp2
       go_ret
       exact ⟨rt, bw⟩

end Go.Proofs.YtobboonnfocalaaGreatDoor.PG1
namespace Go.Proofs.YtobboonnfocalaaGreatDoor.PG1
open Go.RowKit Go.Proofs.YtobboonnfocalaaGreatDoorW.PrintWords Go.Proofs.YtobboonnfocalaaGreatDoorW.PrintLast Go.Proofs.YtobboonnfocalaaGreatDoorW.PrintMore Go.Proofs.YtobboonnfocalaaGreatDoor.T
attribute [local go_sem] max2_int min2_int max_two min_two max_three min_three max_four min_four   -- for this text's walks alone
set_option linter.unusedVariables false
set_option linter.unusedSimpArgs false

/-! ### spec_l07Asks: function 58 -/
def spec_l07Asks.l0 : Nat → Int → List Int → List Int → Int → Option (List Int)
 | 0, _, _, _, _ => none
 | k + 1, x0, x1, x5, x6 => if x6 < (x1.length : Int) then (if x0 = 1 then (if 0 ≤ x6 then (if (rd x1 x6) > 0 then (if x5.length < 17592186044416 then (spec_l07Asks.l0 k x0 x1 (x5 ++ [x6]) (wrap64 (x6 + 1))) else (none)) else (if x0 = 2 then (if (rd x1 x6) ≥ 0 then (if x5.length < 17592186044416 then (spec_l07Asks.l0 k x0 x1 (x5 ++ [x6]) (wrap64 (x6 + 1))) else (none)) else (spec_l07Asks.l0 k x0 x1 x5 (wrap64 (x6 + 1)))) else (spec_l07Asks.l0 k x0 x1 x5 (wrap64 (x6 + 1))))) else (none)) else (if x0 = 2 then (if 0 ≤ x6 then (if (rd x1 x6) ≥ 0 then (if x5.length < 17592186044416 then (spec_l07Asks.l0 k x0 x1 (x5 ++ [x6]) (wrap64 (x6 + 1))) else (none)) else (spec_l07Asks.l0 k x0 x1 x5 (wrap64 (x6 + 1)))) else (none)) else (spec_l07Asks.l0 k x0 x1 x5 (wrap64 (x6 + 1))))) else (some x5)
def spec_l07Asks.f (k : Nat) (a0 : Int) (l1 : List Int) : Option (List Int) := spec_l07Asks.l0 k a0 l1 (([] : List Int)) 0
theorem spec_l07Asks.mono_l : ∀ k, (∀ y0 y1 y2 y3, LeO (spec_l07Asks.l0 k y0 y1 y2 y3) (spec_l07Asks.l0 (k + 1) y0 y1 y2 y3))
 | 0 => fun _ _ _ _ r h => by simp [spec_l07Asks.l0] at h
 | k + 1 => by
  have ih0 := spec_l07Asks.mono_l k
  ·intro y0 y1 y2 y3
   unfold spec_l07Asks.l0
   repeat' first
    | (with_reducible first | exact ih0 .. | exact LeO.refl _ | exact LeO.none _ | refine LeO.ite ?_ ?_ | refine LeO.bind ?_ (fun _ => ?_))
    | exact LeO.none _ | refine LeO.ite ?_ ?_ | refine LeO.bind ?_ (fun _ => ?_)
theorem spec_l07Asks.mono : ∀ a0 a1 k, LeO (spec_l07Asks.f k a0 a1) (spec_l07Asks.f (k + 1) a0 a1) := by
 intro a0 a1 k
 have ih0 := spec_l07Asks.mono_l k
 unfold spec_l07Asks.f
 repeat' first
  | (with_reducible first | exact ih0 .. | exact LeO.refl _ | exact LeO.none _ | refine LeO.ite ?_ ?_ | refine LeO.bind ?_ (fun _ => ?_))
  | exact LeO.none _ | refine LeO.ite ?_ ?_ | refine LeO.bind ?_ (fun _ => ?_)
set_option maxHeartbeats 2000000 in
set_option maxRecDepth 100000 in
theorem spec_l07Asks.calls (k : Nat) (a0 : Int) (A1 : Option Addr) (c1 : Nat) (l1 : List Int) (r : List Int) (w : World) (hr1 : Kd.C (Kd.int .i64) w A1 l1.length l1) (hc1 : l1.length ≤ c1) (h : spec_l07Asks.f k a0 l1 = some r) :
  Calls Tryz.prog 58 #[.int .i64 a0, .slice A1 l1.length c1] w fun e w' => ∃ v0_ : Value, e = .returned (v0_) ∧ Kd.R (Kd.int .i64) 3 w' w.heap.size (fun _ => True) v0_ r ∧ Below w.heap.size w w' := by
 have HR1 := Aside0.mk hr1
 have HC1 := Aside0.mk hc1
 clear hr1 hc1
 have HB := Aside0.mk (Below.refl w.heap.size w)
 unfold spec_l07Asks.f at h
 have H := h
 clear h
 obtain ⟨y151, hy151⟩ : ∃ y_ : List Int, y_ = (([] : List Int)) := ⟨_, rfl⟩
 rw [← hy151] at H
 try with_reducible replace H := bs H
 have Ny151 := Aside0.mk hy151
 clear hy151
 have H' := Aside0.mk H
 clear H
 go_enter Tryz.func58, Tryz.ntmps58
 go_wp2_with (first | ((with_reducible refine gate_dst (N := 7) rfl ?_); refine Kd.R_lit (Kd.int .i64) _ 3 ?hg (N := 7) ?hd (xs := ([] : List Int)) (inner := []) (ok := fun _ => True) (okp := fun _ => True) ?hr ?hp (fun _ hk => hk) trivial (Below.refl _ _) (Nat.le_refl _) (by simp) ?_; (case hd => rfl); (case hg => rfl); (case hr => first | (go_simp; done) | (go_simp; rfl)); (case hp => exact (Reps.none _ _)); intro v152 w3 ho4 hb hg_ hnew_; clear hg_ hnew_; (first | rw [← Ny151.out] at ho4 | (simp only [Int.reduceToNat] at ho4; rw [← Ny151.out] at ho4)); have HO153 := Aside0.mk (Kd.R_lower ho4 (below_size bw)); replace HB := hs hb; clear hb ho4))
 go_loopg [5, 6] k (fun kq v5 v6 w' => ∃ (x5_1 : List Int) (x6_1 : Int), v6 = .int .i64 x6_1 ∧ Aside0 (spec_l07Asks.l0 kq a0 l1 x5_1 x6_1 = some r) ∧ Aside0 (kq ≤ k) ∧ Aside0 (Kd.R (Kd.int .i64) 3 w' w.heap.size (fun _ => True) v5 x5_1) ∧ Aside0 (Below w.heap.size w w'))
 case atStart => exact ⟨(y151), (0), ev, H', ⟨Nat.le_refl _⟩, ⟨ro HO153⟩, ⟨bw⟩⟩
 case round =>
  clear H'
  try clear c1
  obtain ⟨x5_1, x6_1, rfl, HA, HK1, HO_5, HB⟩ := hrel
  cases gk with
  | zero => exact absurd HA.out (by simp [spec_l07Asks.l0])
  | succ k1 =>
   have H := HA.out
   clear HA
   simp only [spec_l07Asks.l0] at H
   replace H := ilt H
   rcases H with ⟨c5b0, H⟩ | ⟨c5b0, H⟩
   ·replace H := ieq H
    rcases H with ⟨c6b0, c6b1, H⟩ | ⟨c6, c6b0, c6b1, H⟩
    ·by_cases c7 : 0 ≤ x6_1
     ·rw [if_pos c7] at H
      have c7b0 : decide (0 ≤ x6_1) = true := decide_eq_true c7
      clear c7
      replace H := igt H
      rcases H with ⟨c8b0, H⟩ | ⟨c8b0, H⟩
      ·by_cases c9 : x5_1.length < 17592186044416
       ·rw [if_pos c9] at H
        have LMc9 := Aside0.mk c9
        clear c9
        obtain ⟨y155, hy155⟩ : ∃ y_ : List Int, y_ = (x5_1 ++ [x6_1]) := ⟨_, rfl⟩
        rw [← hy155] at H
        try with_reducible replace H := bs H
        have Ny155 := Aside0.mk hy155
        clear hy155
        have H' := Aside0.mk H
        clear H
        have p154 : 0 ≤ (x6_1 : Int) := of_decide_eq_true as_
        have q154 : x6_1 < (l1.length : Int) := of_decide_eq_true as_
        obtain ⟨ad154, e154, hx154_0⟩ := Kd.at_int HR1.out x6_1 p154 q154
        cases e154
        replace hx154_0 := cl HB hx154_0
        replace p154 := eq_true p154
        replace q154 := eq_true q154
        go_wp2_with (first | ((with_reducible refine gate_builtin (b := .append) (xs := #[.tmp 34, .tmp 36]) rfl ?_); at_builtin; refine Kd.R_append (Kd.int .i64) (w0 := w) w.heap.size rfl (.tmp 34) (.tmp 36) 29 3 (.int .i64 0) 8 rfl Tryz.underlying29 info3 rfl (by decide) (by omega) u5 x5_1 x6_1 [.int .i64 x6_1] (fun _ => True) (fun _ => False) rfl rfl ?aP (fun _ hk => hk.elim) ?aF ?aO ?aB ?aS ?aL ?_; (case aP => exact rfl); (case aB => exact bw); (case aF => exact (fun _ _ => trivial)); (case aO => exact (ro HO_5)); (case aS => exact (below_size bw)); (case aL => have := LMc9.out; omega); intro v156 w10 ho hb hg hat; rw [← Ny155.out] at ho; have HO157 := Aside0.mk (ho); replace HB := Aside0.mk (hb); clear HO_5; clear ho hb hg hat))
        go_roundg k1
        case measure => have := HK1.out; omega
        case rel => exact ⟨(y155), (wrap64 (x6_1 + 1)), ev, H', ⟨oa HK1⟩, ⟨ro HO157⟩, ⟨bw⟩⟩
       ·rw [if_neg c9] at H
        exact absurd H (by simp)
      ·replace H := ieq H
       rcases H with ⟨c11b0, c11b1, H⟩ | ⟨c11, c11b0, c11b1, H⟩
       ·replace H := ige H
        rcases H with ⟨c12b0, H⟩ | ⟨c12b0, H⟩
        ·by_cases c13 : x5_1.length < 17592186044416
         ·rw [if_pos c13] at H
          have LMc13 := Aside0.mk c13
          clear c13
          obtain ⟨y159, hy159⟩ : ∃ y_ : List Int, y_ = (x5_1 ++ [x6_1]) := ⟨_, rfl⟩
          rw [← hy159] at H
          try with_reducible replace H := bs H
          have Ny159 := Aside0.mk hy159
          clear hy159
          have H' := Aside0.mk H
          clear H
          have p154 : 0 ≤ (x6_1 : Int) := of_decide_eq_true as_
          have q154 : x6_1 < (l1.length : Int) := of_decide_eq_true as_
          obtain ⟨ad154, e154, hx154_0⟩ := Kd.at_int HR1.out x6_1 p154 q154
          cases e154
          replace hx154_0 := cl HB hx154_0
          replace p154 := eq_true p154
          replace q154 := eq_true q154
          have p158 : 0 ≤ (x6_1 : Int) := of_decide_eq_true as_
          have q158 : x6_1 < (l1.length : Int) := of_decide_eq_true as_
          obtain ⟨ad158, e158, hx158_0⟩ := Kd.at_int HR1.out x6_1 p158 q158
          obtain rfl : ad154 = ad158 := (by injection e158)
          replace hx158_0 := cl HB hx158_0
          replace p158 := eq_true p158
          replace q158 := eq_true q158
          go_wp2_with (first | ((with_reducible refine gate_builtin (b := .append) (xs := #[.tmp 34, .tmp 36]) rfl ?_); at_builtin; refine Kd.R_append (Kd.int .i64) (w0 := w) w.heap.size rfl (.tmp 34) (.tmp 36) 29 3 (.int .i64 0) 8 rfl Tryz.underlying29 info3 rfl (by decide) (by omega) u5 x5_1 x6_1 [.int .i64 x6_1] (fun _ => True) (fun _ => False) rfl rfl ?aP (fun _ hk => hk.elim) ?aF ?aO ?aB ?aS ?aL ?_; (case aP => exact rfl); (case aB => exact bw); (case aF => exact (fun _ _ => trivial)); (case aO => exact (ro HO_5)); (case aS => exact (below_size bw)); (case aL => have := LMc13.out; omega); intro v160 w14 ho hb hg hat; rw [← Ny159.out] at ho; have HO161 := Aside0.mk (ho); replace HB := Aside0.mk (hb); clear HO_5; clear ho hb hg hat))
          go_roundg k1
          case measure => have := HK1.out; omega
          case rel => exact ⟨(y159), (wrap64 (x6_1 + 1)), ev, H', ⟨oa HK1⟩, ⟨ro HO161⟩, ⟨bw⟩⟩
         ·rw [if_neg c13] at H
          exact absurd H (by simp)
        ·have H' := Aside0.mk H
         clear H
         have p154 : 0 ≤ (x6_1 : Int) := of_decide_eq_true as_
         have q154 : x6_1 < (l1.length : Int) := of_decide_eq_true as_
         obtain ⟨ad154, e154, hx154_0⟩ := Kd.at_int HR1.out x6_1 p154 q154
         cases e154
         replace hx154_0 := cl HB hx154_0
         replace p154 := eq_true p154
         replace q154 := eq_true q154
         have p158 : 0 ≤ (x6_1 : Int) := of_decide_eq_true as_
         have q158 : x6_1 < (l1.length : Int) := of_decide_eq_true as_
         obtain ⟨ad158, e158, hx158_0⟩ := Kd.at_int HR1.out x6_1 p158 q158
         obtain rfl : ad154 = ad158 := (by injection e158)
         replace hx158_0 := cl HB hx158_0
         replace p158 := eq_true p158
         replace q158 := eq_true q158
         go_wp2
         go_roundg k1
         case measure => have := HK1.out; omega
         case rel => exact ⟨(x5_1), (wrap64 (x6_1 + 1)), ev, H', ⟨oa HK1⟩, ⟨ro HO_5⟩, ⟨bw⟩⟩
       ·have H' := Aside0.mk H
        clear H
        have p154 : 0 ≤ (x6_1 : Int) := of_decide_eq_true as_
        have q154 : x6_1 < (l1.length : Int) := of_decide_eq_true as_
        obtain ⟨ad154, e154, hx154_0⟩ := Kd.at_int HR1.out x6_1 p154 q154
        cases e154
        replace hx154_0 := cl HB hx154_0
        replace p154 := eq_true p154
        replace q154 := eq_true q154
        go_wp2
        go_roundg k1
        case measure => have := HK1.out; omega
        case rel => exact ⟨(x5_1), (wrap64 (x6_1 + 1)), ev, H', ⟨oa HK1⟩, ⟨ro HO_5⟩, ⟨bw⟩⟩
     ·rw [if_neg c7] at H
      exact absurd H (by simp)
    ·replace H := ieq H
     rcases H with ⟨c15b0, c15b1, H⟩ | ⟨c15, c15b0, c15b1, H⟩
     ·by_cases c16 : 0 ≤ x6_1
      ·rw [if_pos c16] at H
       have c16b0 : decide (0 ≤ x6_1) = true := decide_eq_true c16
       clear c16
       replace H := ige H
       rcases H with ⟨c17b0, H⟩ | ⟨c17b0, H⟩
       ·by_cases c18 : x5_1.length < 17592186044416
        ·rw [if_pos c18] at H
         have LMc18 := Aside0.mk c18
         clear c18
         obtain ⟨y163, hy163⟩ : ∃ y_ : List Int, y_ = (x5_1 ++ [x6_1]) := ⟨_, rfl⟩
         rw [← hy163] at H
         try with_reducible replace H := bs H
         have Ny163 := Aside0.mk hy163
         clear hy163
         have H' := Aside0.mk H
         clear H
         have p162 : 0 ≤ (x6_1 : Int) := of_decide_eq_true as_
         have q162 : x6_1 < (l1.length : Int) := of_decide_eq_true as_
         obtain ⟨ad162, e162, hx162_0⟩ := Kd.at_int HR1.out x6_1 p162 q162
         cases e162
         replace hx162_0 := cl HB hx162_0
         replace p162 := eq_true p162
         replace q162 := eq_true q162
         go_wp2_with (first | ((with_reducible refine gate_builtin (b := .append) (xs := #[.tmp 34, .tmp 36]) rfl ?_); at_builtin; refine Kd.R_append (Kd.int .i64) (w0 := w) w.heap.size rfl (.tmp 34) (.tmp 36) 29 3 (.int .i64 0) 8 rfl Tryz.underlying29 info3 rfl (by decide) (by omega) u5 x5_1 x6_1 [.int .i64 x6_1] (fun _ => True) (fun _ => False) rfl rfl ?aP (fun _ hk => hk.elim) ?aF ?aO ?aB ?aS ?aL ?_; (case aP => exact rfl); (case aB => exact bw); (case aF => exact (fun _ _ => trivial)); (case aO => exact (ro HO_5)); (case aS => exact (below_size bw)); (case aL => have := LMc18.out; omega); intro v164 w19 ho hb hg hat; rw [← Ny163.out] at ho; have HO165 := Aside0.mk (ho); replace HB := Aside0.mk (hb); clear HO_5; clear ho hb hg hat))
         go_roundg k1
         case measure => have := HK1.out; omega
         case rel => exact ⟨(y163), (wrap64 (x6_1 + 1)), ev, H', ⟨oa HK1⟩, ⟨ro HO165⟩, ⟨bw⟩⟩
        ·rw [if_neg c18] at H
         exact absurd H (by simp)
       ·have H' := Aside0.mk H
        clear H
        have p162 : 0 ≤ (x6_1 : Int) := of_decide_eq_true as_
        have q162 : x6_1 < (l1.length : Int) := of_decide_eq_true as_
        obtain ⟨ad162, e162, hx162_0⟩ := Kd.at_int HR1.out x6_1 p162 q162
        cases e162
        replace hx162_0 := cl HB hx162_0
        replace p162 := eq_true p162
        replace q162 := eq_true q162
        go_wp2
        go_roundg k1
        case measure => have := HK1.out; omega
        case rel => exact ⟨(x5_1), (wrap64 (x6_1 + 1)), ev, H', ⟨oa HK1⟩, ⟨ro HO_5⟩, ⟨bw⟩⟩
      ·rw [if_neg c16] at H
       exact absurd H (by simp)
     ·have H' := Aside0.mk H
      clear H
      go_wp2
      go_roundg k1
      case measure => have := HK1.out; omega
      case rel => exact ⟨(x5_1), (wrap64 (x6_1 + 1)), ev, H', ⟨oa HK1⟩, ⟨ro HO_5⟩, ⟨bw⟩⟩
   ·obtain rfl := Option.some.inj H
    go_wp2
    go_ret
    exact ⟨_, rt, ro HO_5, bw⟩

/-! ### spec_l07LargeOk: function 59 -/
mutual
def spec_l07LargeOk.j0 : Nat → Int → Bool → Int → List Int → List Int → Int → Int → Int → Int → Int → Option (Bool)
 | 0, _, _, _, _, _, _, _, _, _, _ => none
 | k + 1, x1, x28, x167000, x167001, x167002, x167003, x167004, x167005, x167006, x167007 => if x28 = true then (some false) else (if x167004 = 0 then (spec_l07LargeOk.j1 k x1 x167004 (x167004 == 0) x167000 x167001 x167002 x167003 x167004 x167005 x167006 x167007) else (spec_l07LargeOk.j1 k x1 x167004 (x167004 == 1) x167000 x167001 x167002 x167003 x167004 x167005 x167006 x167007))
def spec_l07LargeOk.j1 : Nat → Int → Int → Bool → Int → List Int → List Int → Int → Int → Int → Int → Int → Option (Bool)
 | 0, _, _, _, _, _, _, _, _, _, _, _ => none
 | k + 1, x1, x30, x31, x167000, x167001, x167002, x167003, x167004, x167005, x167006, x167007 => if x31 = true then (some (decide (x167006 < x1))) else (if x30 = 2 then (some (decide (x167006 > 0))) else (if x30 = 3 then (some (x167006 == x1)) else (some false)))
end
def spec_l07LargeOk.f (k : Nat) (a0_0 : Int) (l0_1 : List Int) (l0_2 : List Int) (a0_3 : Int) (a0_4 : Int) (a0_5 : Int) (a0_6 : Int) (a0_7 : Int) (a1 : Int) (a2 : Int) : Option (Bool) := if a0_6 > a1 then (spec_l07LargeOk.j0 k a1 true a0_0 l0_1 l0_2 a0_3 a0_4 a0_5 a0_6 a0_7) else (if a0_6 > 0 then (spec_l07LargeOk.j0 k a1 (decide ((wrap64 (a0_5 + a1)) > a2)) a0_0 l0_1 l0_2 a0_3 a0_4 a0_5 a0_6 a0_7) else (if a0_4 = 1 then (spec_l07LargeOk.j0 k a1 (decide ((wrap64 (a0_5 + a1)) > a2)) a0_0 l0_1 l0_2 a0_3 a0_4 a0_5 a0_6 a0_7) else (spec_l07LargeOk.j0 k a1 false a0_0 l0_1 l0_2 a0_3 a0_4 a0_5 a0_6 a0_7)))
theorem spec_l07LargeOk.mono_l : ∀ k, (∀ y0 y1 y2 y3 y4 y5 y6 y7 y8 y9, LeO (spec_l07LargeOk.j0 k y0 y1 y2 y3 y4 y5 y6 y7 y8 y9) (spec_l07LargeOk.j0 (k + 1) y0 y1 y2 y3 y4 y5 y6 y7 y8 y9)) ∧ (∀ y0 y1 y2 y3 y4 y5 y6 y7 y8 y9 y10, LeO (spec_l07LargeOk.j1 k y0 y1 y2 y3 y4 y5 y6 y7 y8 y9 y10) (spec_l07LargeOk.j1 (k + 1) y0 y1 y2 y3 y4 y5 y6 y7 y8 y9 y10))
 | 0 => ⟨fun _ _ _ _ _ _ _ _ _ _ r h => by simp [spec_l07LargeOk.j0] at h, fun _ _ _ _ _ _ _ _ _ _ _ r h => by simp [spec_l07LargeOk.j1] at h⟩
 | k + 1 => by
  obtain ⟨ih0, ih1⟩ := spec_l07LargeOk.mono_l k
  refine ⟨?_, ?_⟩
  ·intro y0 y1 y2 y3 y4 y5 y6 y7 y8 y9
   unfold spec_l07LargeOk.j0
   repeat' first
    | (with_reducible first | exact ih0 .. | exact ih1 .. | exact LeO.refl _ | exact LeO.none _ | refine LeO.ite ?_ ?_ | refine LeO.bind ?_ (fun _ => ?_))
    | exact LeO.none _ | refine LeO.ite ?_ ?_ | refine LeO.bind ?_ (fun _ => ?_)
  ·intro y0 y1 y2 y3 y4 y5 y6 y7 y8 y9 y10
   unfold spec_l07LargeOk.j1
   repeat' first
    | (with_reducible first | exact ih0 .. | exact ih1 .. | exact LeO.refl _ | exact LeO.none _ | refine LeO.ite ?_ ?_ | refine LeO.bind ?_ (fun _ => ?_))
    | exact LeO.none _ | refine LeO.ite ?_ ?_ | refine LeO.bind ?_ (fun _ => ?_)
theorem spec_l07LargeOk.mono : ∀ a0 a1 a2 a3 a4 a5 a6 a7 a8 a9 k, LeO (spec_l07LargeOk.f k a0 a1 a2 a3 a4 a5 a6 a7 a8 a9) (spec_l07LargeOk.f (k + 1) a0 a1 a2 a3 a4 a5 a6 a7 a8 a9) := by
 intro a0 a1 a2 a3 a4 a5 a6 a7 a8 a9 k
 obtain ⟨ih0, ih1⟩ := spec_l07LargeOk.mono_l k
 unfold spec_l07LargeOk.f
 repeat' first
  | (with_reducible first | exact ih0 .. | exact ih1 .. | exact LeO.refl _ | exact LeO.none _ | refine LeO.ite ?_ ?_ | refine LeO.bind ?_ (fun _ => ?_))
  | exact LeO.none _ | refine LeO.ite ?_ ?_ | refine LeO.bind ?_ (fun _ => ?_)
set_option maxHeartbeats 2000000 in
set_option maxRecDepth 100000 in
theorem spec_l07LargeOk.calls (k : Nat) (a0_0 : Int) (A0_1 : Option Addr) (c0_1 : Nat) (l0_1 : List Int) (A0_2 : Option Addr) (c0_2 : Nat) (l0_2 : List Int) (a0_3 : Int) (a0_4 : Int) (a0_5 : Int) (a0_6 : Int) (a0_7 : Int) (a1 : Int) (a2 : Int) (r : Bool) (w : World) (hr0_1 : Kd.C (Kd.int .i64) w A0_1 l0_1.length l0_1) (hc0_1 : l0_1.length ≤ c0_1) (hr0_2 : Kd.C (Kd.int .i64) w A0_2 l0_2.length l0_2) (hc0_2 : l0_2.length ≤ c0_2) (h : spec_l07LargeOk.f k a0_0 l0_1 l0_2 a0_3 a0_4 a0_5 a0_6 a0_7 a1 a2 = some r) :
  Calls Tryz.prog 59 #[.agg #[.int .i64 a0_0, .slice A0_1 l0_1.length c0_1, .slice A0_2 l0_2.length c0_2, .int .u32 a0_3, .int .i64 a0_4, .int .i64 a0_5, .int .i64 a0_6, .int .u32 a0_7], .int .i64 a1, .int .i64 a2] w fun e w' => e = .returned (.bool r) ∧ Below w.heap.size w w' := by
 have hu49 := Tryz.underlying49
 have HR0_1 := Aside0.mk hr0_1
 have HC0_1 := Aside0.mk hc0_1
 clear hr0_1 hc0_1
 have HR0_2 := Aside0.mk hr0_2
 have HC0_2 := Aside0.mk hc0_2
 clear hr0_2 hc0_2
 have HB := Aside0.mk (Below.refl w.heap.size w)
 unfold spec_l07LargeOk.f at h
 have H := h
 clear h
 have HC4 := Aside0.mk H
 clear H
 go_enter Tryz.func59, Tryz.ntmps59
 go_upto_region 1 with (first | ((with_reducible refine gd 3 ?_); refine bx 3 49 #[.int .i64 a0_0, .slice A0_1 l0_1.length c0_1, .slice A0_2 l0_2.length c0_2, .int .u32 a0_3, .int .i64 a0_4, .int .i64 a0_5, .int .i64 a0_6, .int .u32 a0_7] ?_; clear HB; intro gb166 w5 hg BK166 hb GE166 HB; clear hb hg))
 (try refine ap ?_)
 go_cut [28] (fun v28 wc => ∃ (kq : Nat) (x28_3 : Bool), v28 = .bool x28_3 ∧ Aside0 (spec_l07LargeOk.j0 kq a1 x28_3 a0_0 l0_1 l0_2 a0_3 a0_4 a0_5 a0_6 a0_7 = some r) ∧ Aside0 (kq ≤ k) ∧ Aside0 (wc.heap[gb166]? = some (.cells #[.int .i64 a0_0, (.slice A0_1 l0_1.length c0_1), (.slice A0_2 l0_2.length c0_2), .int .u32 a0_3, .int .i64 a0_4, .int .i64 a0_5, .int .i64 a0_6, .int .u32 a0_7] 49 (0, 0))) ∧ Aside0 (Below w.heap.size w wc))
 case first =>
  have H := HC4.out
  clear HC4
  replace H := igt H
  rcases H with ⟨c6b0, H⟩ | ⟨c6b0, H⟩
  ·(first | rw [c6b0] | (simp only [i64_w, i32_w]; rw [c6b0]) | (simp only [c6b2, Bool.not_true, Bool.not_false]) | (simp only [c6b1, Bool.not_true, Bool.not_false]) | skip)
   have H' := Aside0.mk H
   clear H
   obtain ⟨z7_0, z7_1, z7_2, z7_3, z7_4, z7_5, z7_6, z7_7⟩ := ca8 BK166
   obtain ⟨f7_0, f7_1, f7_2, f7_3, f7_4, f7_5, f7_6, f7_7⟩ := fa8 BK166
   go_wp2
   go_meet
   case rel => exact ⟨_, (true), ev, H', ⟨om⟩, ⟨bk BK166⟩, ⟨bw⟩⟩
  ·(first | rw [c6b0] | (simp only [i64_w, i32_w]; rw [c6b0]) | (simp only [c6b2, Bool.not_true, Bool.not_false]) | (simp only [c6b1, Bool.not_true, Bool.not_false]) | skip)
   replace H := igt H
   rcases H with ⟨c8b0, H⟩ | ⟨c8b0, H⟩
   ·have H' := Aside0.mk H
    clear H
    obtain ⟨z9_0, z9_1, z9_2, z9_3, z9_4, z9_5, z9_6, z9_7⟩ := ca8 BK166
    obtain ⟨f9_0, f9_1, f9_2, f9_3, f9_4, f9_5, f9_6, f9_7⟩ := fa8 BK166
    go_wp2
    go_meet
    case rel => exact ⟨_, (decide ((wrap64 (a0_5 + a1)) > a2)), ev, H', ⟨om⟩, ⟨bk BK166⟩, ⟨bw⟩⟩
   ·replace H := ieq H
    rcases H with ⟨c10b0, c10b1, H⟩ | ⟨c10, c10b0, c10b1, H⟩
    ·have H' := Aside0.mk H
     clear H
     obtain ⟨z11_0, z11_1, z11_2, z11_3, z11_4, z11_5, z11_6, z11_7⟩ := ca8 BK166
     obtain ⟨f11_0, f11_1, f11_2, f11_3, f11_4, f11_5, f11_6, f11_7⟩ := fa8 BK166
     go_wp2
     go_meet
     case rel => exact ⟨_, (decide ((wrap64 (a0_5 + a1)) > a2)), ev, H', ⟨om⟩, ⟨bk BK166⟩, ⟨bw⟩⟩
    ·have H' := Aside0.mk H
     clear H
     obtain ⟨z12_0, z12_1, z12_2, z12_3, z12_4, z12_5, z12_6, z12_7⟩ := ca8 BK166
     obtain ⟨f12_0, f12_1, f12_2, f12_3, f12_4, f12_5, f12_6, f12_7⟩ := fa8 BK166
     go_wp2
     go_meet
     case rel => exact ⟨_, (false), ev, H', ⟨om⟩, ⟨bk BK166⟩, ⟨bw⟩⟩
 case rest =>
  clear HC4
  try clear c1
  obtain ⟨kq, x28_3, rfl, HA, HJ3, BK166, HB⟩ := hcut
  cases kq with
  | zero => exact absurd HA.out (by simp [spec_l07LargeOk.j0])
  | succ kj3 =>
   have H := HA.out
   clear HA
   simp only [spec_l07LargeOk.j0] at H
   replace H := ib H
   rcases H with ⟨rfl, H⟩ | ⟨rfl, H⟩
   ·obtain rfl := Option.some.inj H
    go_wp2
    go_ret
    exact ⟨rt, bw⟩
   ·have HC14 := Aside0.mk H
    clear H
    obtain ⟨z15_0, z15_1, z15_2, z15_3, z15_4, z15_5, z15_6, z15_7⟩ := ca8 BK166
    obtain ⟨f15_0, f15_1, f15_2, f15_3, f15_4, f15_5, f15_6, f15_7⟩ := fa8 BK166
    go_upto_if 31 with (fail)
    go_cut [31] (fun v31 wc => ∃ (kq : Nat) (x31_13 : Bool), v31 = .bool x31_13 ∧ Aside0 (spec_l07LargeOk.j1 kq a1 a0_4 x31_13 a0_0 l0_1 l0_2 a0_3 a0_4 a0_5 a0_6 a0_7 = some r) ∧ Aside0 (kq ≤ kj3) ∧ Aside0 (wc.heap[gb166]? = some (.cells #[.int .i64 a0_0, (.slice A0_1 l0_1.length c0_1), (.slice A0_2 l0_2.length c0_2), .int .u32 a0_3, .int .i64 a0_4, .int .i64 a0_5, .int .i64 a0_6, .int .u32 a0_7] 49 (0, 0))) ∧ Aside0 (Below w.heap.size w wc))
    case first =>
     have H := HC14.out
     clear HC14
     replace H := ieq H
     rcases H with ⟨c16b0, c16b1, H⟩ | ⟨c16, c16b0, c16b1, H⟩
     ·(first | rw [c16b0] | (simp only [i64_w, i32_w]; rw [c16b0]) | (simp only [c16b2, Bool.not_true, Bool.not_false]) | (simp only [c16b1, Bool.not_true, Bool.not_false]) | skip)
      have H' := Aside0.mk H
      clear H
      go_wp2
      go_meet
      case rel => exact ⟨_, ((a0_4 == 0)), ev, H', ⟨by have := HJ3.out; first | omega | exact Nat.le_refl _⟩, ⟨bk BK166⟩, ⟨bw⟩⟩
     ·(first | rw [c16b0] | (simp only [i64_w, i32_w]; rw [c16b0]) | (simp only [c16b2, Bool.not_true, Bool.not_false]) | (simp only [c16b1, Bool.not_true, Bool.not_false]) | skip)
      have H' := Aside0.mk H
      clear H
      go_wp2
      go_meet
      case rel => exact ⟨_, ((a0_4 == 1)), ev, H', ⟨by have := HJ3.out; first | omega | exact Nat.le_refl _⟩, ⟨bk BK166⟩, ⟨bw⟩⟩
    case rest =>
     clear HC14
     try clear c1
     try clear c13
     (try clear z15_0 z15_1 z15_2 z15_3 z15_4 z15_5 z15_6 z15_7)
     (try clear f15_0 f15_1 f15_2 f15_3 f15_4 f15_5 f15_6 f15_7)
     obtain ⟨kq, x31_13, rfl, HA, HJ13, BK166, HB⟩ := hcut
     cases kq with
     | zero => exact absurd HA.out (by simp [spec_l07LargeOk.j1])
     | succ kj13 =>
      have H := HA.out
      clear HA
      simp only [spec_l07LargeOk.j1] at H
      replace H := ib H
      rcases H with ⟨rfl, H⟩ | ⟨rfl, H⟩
      ·obtain rfl := Option.some.inj H
       obtain ⟨z18_0, z18_1, z18_2, z18_3, z18_4, z18_5, z18_6, z18_7⟩ := ca8 BK166
       obtain ⟨f18_0, f18_1, f18_2, f18_3, f18_4, f18_5, f18_6, f18_7⟩ := fa8 BK166
       go_wp2
       go_ret
       exact ⟨rt, bw⟩
      ·replace H := ieq H
       rcases H with ⟨c19b0, c19b1, H⟩ | ⟨c19, c19b0, c19b1, H⟩
       ·obtain rfl := Option.some.inj H
        obtain ⟨z20_0, z20_1, z20_2, z20_3, z20_4, z20_5, z20_6, z20_7⟩ := ca8 BK166
        obtain ⟨f20_0, f20_1, f20_2, f20_3, f20_4, f20_5, f20_6, f20_7⟩ := fa8 BK166
        go_wp2
        go_ret
        exact ⟨rt, bw⟩
       ·replace H := ieq H
        rcases H with ⟨c21b0, c21b1, H⟩ | ⟨c21, c21b0, c21b1, H⟩
        ·obtain rfl := Option.some.inj H
         obtain ⟨z22_0, z22_1, z22_2, z22_3, z22_4, z22_5, z22_6, z22_7⟩ := ca8 BK166
         obtain ⟨f22_0, f22_1, f22_2, f22_3, f22_4, f22_5, f22_6, f22_7⟩ := fa8 BK166
         go_wp2
         go_ret
         exact ⟨rt, bw⟩
        ·obtain rfl := Option.some.inj H
         go_wp2
         go_ret
         exact ⟨rt, bw⟩

/-! ### spec_ChunksFor: function 60 -/
def spec_ChunksFor.f (a0 : Int) : Option (Int) := if a0 ≤ 16 then (some 0) else (if a0 > 256 then (some 0) else (some (wrap64 (Int.tdiv (wrap64 ((wrap64 (a0 + 16)) - 1)) 16))))
set_option maxHeartbeats 2000000 in
set_option maxRecDepth 100000 in
theorem spec_ChunksFor.calls (a0 : Int) (r : Int) (w : World) (h : spec_ChunksFor.f a0 = some r) :
  Calls Tryz.prog 60 #[.int .i64 a0] w fun e w' => e = .returned (.int .i64 r) ∧ Drawn0 w w' := by
 unfold spec_ChunksFor.f at h
 have H := h
 clear h
 replace H := ile H
 rcases H with ⟨c2b0, H⟩ | ⟨c2b0, H⟩
 ·obtain rfl := Option.some.inj H
  go_enter Tryz.func60, Tryz.ntmps60
  go_wp2
  go_ret
  exact ⟨ev, dr⟩
 ·replace H := igt H
  rcases H with ⟨c3b0, H⟩ | ⟨c3b0, H⟩
  ·obtain rfl := Option.some.inj H
   go_enter Tryz.func60, Tryz.ntmps60
   go_wp2
   go_ret
   exact ⟨ev, dr⟩
  ·obtain rfl := Option.some.inj H
   go_enter Tryz.func60, Tryz.ntmps60
   go_wp2
   go_ret
   exact ⟨ev, dr⟩

/-! ### spec_Ones: function 86 -/
def spec_Ones.f (k : Nat) (a0 : Int) : Option (Int) := (spec_BitList.f k a0).bind fun t167 => (some (t167.length : Int))
theorem spec_Ones.mono : ∀ a0 k, LeO (spec_Ones.f k a0) (spec_Ones.f (k + 1) a0) := by
 intro a0 k
 unfold spec_Ones.f
 repeat' first
  | (with_reducible first | exact spec_BitList.mono .. | exact LeO.refl _ | exact LeO.none _ | refine LeO.ite ?_ ?_ | refine LeO.bind ?_ (fun _ => ?_))
  | exact LeO.none _ | refine LeO.ite ?_ ?_ | refine LeO.bind ?_ (fun _ => ?_)
set_option maxHeartbeats 2000000 in
set_option maxRecDepth 100000 in
theorem spec_Ones.calls (k : Nat) (a0 : Int) (r : Int) (w : World) (h : spec_Ones.f k a0 = some r) :
  Calls Tryz.prog 86 #[.int .u32 a0] w fun e w' => e = .returned (.int .i64 r) ∧ Below w.heap.size w w' := by
 have HB := Aside0.mk (Below.refl w.heap.size w)
 unfold spec_Ones.f at h
 have H := h
 clear h
 replace H := bn H
 obtain ⟨t167, A2, H⟩ := H
 try dsimp only at H
 obtain rfl := Option.some.inj H
 go_enter Tryz.func86, Tryz.ntmps86
 go_wp2_with (first | ((with_reducible refine gf 37 ?_); refine gc Tryz.func37 (some 4) (spec_BitList.calls _ _ _ _ A2.out) ?_; rintro e w3 ⟨v168, rfl, ho0, hb⟩; refine ⟨_, rfl, ?_⟩; have HO169 := Aside0.mk (Kd.R_lower ho0 (below_size bw)); replace HB := hs hb; try clear hb; (try clear ho0); obtain ⟨Ao4, co4, eo4⟩ := Kd.R_slice HO169.out; subst eo4))
 go_ret
 exact ⟨rt, bw⟩

end Go.Proofs.YtobboonnfocalaaGreatDoor.PG1
namespace Go.Proofs.YtobboonnfocalaaGreatDoor.PG1
open Go.RowKit Go.Proofs.YtobboonnfocalaaGreatDoorW.PrintWords Go.Proofs.YtobboonnfocalaaGreatDoorW.PrintLast Go.Proofs.YtobboonnfocalaaGreatDoorW.PrintMore Go.Proofs.YtobboonnfocalaaGreatDoor.T
attribute [local go_sem] max2_int min2_int max_two min_two max_three min_three max_four min_four   -- for this text's walks alone
set_option linter.unusedVariables false
set_option linter.unusedSimpArgs false

/-! ### spec_Room: function 61 -/
mutual
def spec_Room.j0 : Nat → Int → Bool → Int → Int → Int → Int → Option (Int)
 | 0, _, _, _, _, _, _ => none
 | k + 1, x1, x12, x176000, x176001, x176002, x176003 => if x12 = true then (some 0) else (if x176000 = 0 then ((spec_PerPage.f k x1).bind fun t177 => (some t177)) else (if x176000 = 1 then (spec_Room.j1 k x1 (x176001 == x1) x176000 x176001 x176002 x176003) else (spec_Room.j1 k x1 false x176000 x176001 x176002 x176003)))
def spec_Room.j1 : Nat → Int → Bool → Int → Int → Int → Int → Option (Int)
 | 0, _, _, _, _, _, _ => none
 | k + 1, x1, x26, x176000, x176001, x176002, x176003 => if x26 = true then ((spec_PerPage.f k x1).bind fun t178 => ((spec_Ones.f k x176002).bind fun t179 => (some (wrap64 (t178 - t179))))) else (some 0)
end
def spec_Room.f (k : Nat) (a0 : Int) (a1 : Int) : Option (Int) := (spec_CtlRead.f k a0).bind fun bt170 => (if bt170.2.2.2.2 = true then ((spec_l04Class.f a1).bind fun t176 => (spec_Room.j0 k a1 (!t176) bt170.1 bt170.2.1 bt170.2.2.1 bt170.2.2.2.1)) else (spec_Room.j0 k a1 true bt170.1 bt170.2.1 bt170.2.2.1 bt170.2.2.2.1))
theorem spec_Room.mono_l : ∀ k, (∀ y0 y1 y2 y3 y4 y5, LeO (spec_Room.j0 k y0 y1 y2 y3 y4 y5) (spec_Room.j0 (k + 1) y0 y1 y2 y3 y4 y5)) ∧ (∀ y0 y1 y2 y3 y4 y5, LeO (spec_Room.j1 k y0 y1 y2 y3 y4 y5) (spec_Room.j1 (k + 1) y0 y1 y2 y3 y4 y5))
 | 0 => ⟨fun _ _ _ _ _ _ r h => by simp [spec_Room.j0] at h, fun _ _ _ _ _ _ r h => by simp [spec_Room.j1] at h⟩
 | k + 1 => by
  obtain ⟨ih0, ih1⟩ := spec_Room.mono_l k
  refine ⟨?_, ?_⟩
  ·intro y0 y1 y2 y3 y4 y5
   unfold spec_Room.j0
   repeat' first
    | (with_reducible first | exact ih0 .. | exact ih1 .. | exact spec_CtlRead.mono .. | exact spec_Ones.mono .. | exact spec_PerPage.mono .. | exact LeO.refl _ | exact LeO.none _ | refine LeO.ite ?_ ?_ | refine LeO.bind ?_ (fun _ => ?_))
    | exact LeO.none _ | refine LeO.ite ?_ ?_ | refine LeO.bind ?_ (fun _ => ?_)
  ·intro y0 y1 y2 y3 y4 y5
   unfold spec_Room.j1
   repeat' first
    | (with_reducible first | exact ih0 .. | exact ih1 .. | exact spec_CtlRead.mono .. | exact spec_Ones.mono .. | exact spec_PerPage.mono .. | exact LeO.refl _ | exact LeO.none _ | refine LeO.ite ?_ ?_ | refine LeO.bind ?_ (fun _ => ?_))
    | exact LeO.none _ | refine LeO.ite ?_ ?_ | refine LeO.bind ?_ (fun _ => ?_)
theorem spec_Room.mono : ∀ a0 a1 k, LeO (spec_Room.f k a0 a1) (spec_Room.f (k + 1) a0 a1) := by
 intro a0 a1 k
 obtain ⟨ih0, ih1⟩ := spec_Room.mono_l k
 unfold spec_Room.f
 repeat' first
  | (with_reducible first | exact ih0 .. | exact ih1 .. | exact spec_CtlRead.mono .. | exact spec_Ones.mono .. | exact spec_PerPage.mono .. | exact LeO.refl _ | exact LeO.none _ | refine LeO.ite ?_ ?_ | refine LeO.bind ?_ (fun _ => ?_))
  | exact LeO.none _ | refine LeO.ite ?_ ?_ | refine LeO.bind ?_ (fun _ => ?_)
set_option maxHeartbeats 2000000 in
set_option maxRecDepth 100000 in
theorem spec_Room.calls (k : Nat) (a0 : Int) (a1 : Int) (r : Int) (w : World) (h : spec_Room.f k a0 a1 = some r) :
  Calls Tryz.prog 61 #[.int .u32 a0, .int .i64 a1] w fun e w' => e = .returned (.int .i64 r) ∧ Below w.heap.size w w' := by
 have hu75 := Tryz.underlying75
 have HB := Aside0.mk (Below.refl w.heap.size w)
 unfold spec_Room.f at h
 have H := h
 clear h
 replace H := bn H
 obtain ⟨⟨t170, t171, t172, t173, t174⟩, A3, H⟩ := H
 try dsimp only at H
 have HC4 := Aside0.mk H
 clear H
 go_enter Tryz.func61, Tryz.ntmps61
 go_upto_region 2 with (first | ((with_reducible refine gf 36 ?_); refine gc Tryz.func36 (some 9) (spec_CtlRead.calls _ _ _ _ _ _ _ _ A3.out) ?_; rintro e w5 ⟨rfl, hb⟩; refine ⟨_, rfl, ?_⟩; replace HB := hs hb; try clear hb) | ((with_reducible refine gd 5 ?_); refine bx 5 75 #[.int .i64 0, .int .i64 0, .int .u32 0, .int .i64 0] ?_; clear HB; intro gb175 w6 hg BK175 hb GE175 HB; clear hb hg; obtain ⟨z7_0, z7_1, z7_2, z7_3⟩ := ca4 BK175; obtain ⟨f7_0, f7_1, f7_2, f7_3⟩ := fa4 BK175))
 (try refine ap ?_)
 go_cut [12] (fun v12 wc => ∃ (kq : Nat) (x12_3 : Bool), v12 = .bool x12_3 ∧ Aside0 (spec_Room.j0 kq a1 x12_3 t170 t171 t172 t173 = some r) ∧ Aside0 (kq ≤ k) ∧ Aside0 (wc.heap[gb175]? = some (.cells #[.int .i64 t170, .int .i64 t171, .int .u32 t172, .int .i64 t173] 75 (0, 0))) ∧ Aside0 (Below w.heap.size w wc))
 case first =>
  have H := HC4.out
  clear HC4
  replace H := ib H
  rcases H with ⟨rfl, H⟩ | ⟨rfl, H⟩
  ·(try simp only [Bool.not_true, Bool.not_false])
   replace H := bn H
   obtain ⟨t176, A9, H⟩ := H
   try dsimp only at H
   have H' := Aside0.mk H
   clear H
   go_wp2_with (first | (go_at_call 66; (with_reducible refine (spec_l04Class.calls _ _ _ A9.out).mono ?_); rintro e w' ⟨rfl, ⟨nd, rfl⟩⟩))
   go_meet
   case rel => exact ⟨_, (!t176), ev, H', ⟨om⟩, ⟨bp BK175⟩, ⟨bw⟩⟩
  ·(try simp only [Bool.not_true, Bool.not_false])
   have H' := Aside0.mk H
   clear H
   go_wp2
   go_meet
   case rel => exact ⟨_, (true), ev, H', ⟨om⟩, ⟨bp BK175⟩, ⟨bw⟩⟩
 case rest =>
  clear HC4
  (try clear z7_0 z7_1 z7_2 z7_3)
  (try clear f7_0 f7_1 f7_2 f7_3)
  obtain ⟨kq, x12_3, rfl, HA, HJ3, BK175, HB⟩ := hcut
  cases kq with
  | zero => exact absurd HA.out (by simp [spec_Room.j0])
  | succ kj3 =>
   have H := HA.out
   clear HA
   simp only [spec_Room.j0] at H
   replace H := ib H
   rcases H with ⟨rfl, H⟩ | ⟨rfl, H⟩
   ·obtain rfl := Option.some.inj H
    go_wp2
    go_ret
    exact ⟨rt, bw⟩
   ·replace H := ieq H
    rcases H with ⟨c11b0, c11b1, H⟩ | ⟨c11, c11b0, c11b1, H⟩
    ·replace H := bn H
     obtain ⟨t177, A12, H⟩ := H
     try dsimp only at H
     obtain rfl := Option.some.inj H
     obtain ⟨z13_0, z13_1, z13_2, z13_3⟩ := ca4 BK175
     obtain ⟨f13_0, f13_1, f13_2, f13_3⟩ := fa4 BK175
     go_wp2_with (first | ((with_reducible refine gf 85 ?_); refine gc Tryz.func85 (some 25) (spec_PerPage.calls _ _ _ _ A12.out) ?_; rintro e w' ⟨rfl, ⟨nd, rfl⟩⟩; refine ⟨_, rfl, ?_⟩))
     go_ret
     exact ⟨rt, bw⟩
    ·have HC14 := Aside0.mk H
     clear H
     obtain ⟨z15_0, z15_1, z15_2, z15_3⟩ := ca4 BK175
     obtain ⟨f15_0, f15_1, f15_2, f15_3⟩ := fa4 BK175
     go_upto_region 6 with (fail)
     go_cut [26] (fun v26 wc => ∃ (kq : Nat) (x26_13 : Bool), v26 = .bool x26_13 ∧ Aside0 (spec_Room.j1 kq a1 x26_13 t170 t171 t172 t173 = some r) ∧ Aside0 (kq ≤ kj3) ∧ Aside0 (wc.heap[gb175]? = some (.cells #[.int .i64 t170, .int .i64 t171, .int .u32 t172, .int .i64 t173] 75 (0, 0))) ∧ Aside0 (Below w.heap.size w wc))
     case first =>
      have H := HC14.out
      clear HC14
      replace H := ieq H
      rcases H with ⟨c16b0, c16b1, H⟩ | ⟨c16, c16b0, c16b1, H⟩
      ·(first | rw [c16b0] | (simp only [i64_w, i32_w]; rw [c16b0]) | (simp only [c16b2, Bool.not_true, Bool.not_false]) | (simp only [c16b1, Bool.not_true, Bool.not_false]) | skip)
       have H' := Aside0.mk H
       clear H
       obtain ⟨z17_0, z17_1, z17_2, z17_3⟩ := ca4 BK175
       obtain ⟨f17_0, f17_1, f17_2, f17_3⟩ := fa4 BK175
       go_wp2
       go_meet
       case rel => exact ⟨_, ((t171 == a1)), ev, H', ⟨by have := HJ3.out; first | omega | exact Nat.le_refl _⟩, ⟨bk BK175⟩, ⟨bw⟩⟩
      ·(first | rw [c16b0] | (simp only [i64_w, i32_w]; rw [c16b0]) | (simp only [c16b2, Bool.not_true, Bool.not_false]) | (simp only [c16b1, Bool.not_true, Bool.not_false]) | skip)
       have H' := Aside0.mk H
       clear H
       obtain ⟨z18_0, z18_1, z18_2, z18_3⟩ := ca4 BK175
       obtain ⟨f18_0, f18_1, f18_2, f18_3⟩ := fa4 BK175
       go_wp2
       go_meet
       case rel => exact ⟨_, (false), ev, H', ⟨by have := HJ3.out; first | omega | exact Nat.le_refl _⟩, ⟨bk BK175⟩, ⟨bw⟩⟩
     case rest =>
      clear HC14
      try clear c10
      try clear c11
      try clear c11b0
      try clear c11b1
      (try clear z15_0 z15_1 z15_2 z15_3)
      (try clear z7_0 z7_1 z7_2 z7_3)
      (try clear f15_0 f15_1 f15_2 f15_3)
      (try clear f7_0 f7_1 f7_2 f7_3)
      obtain ⟨kq, x26_13, rfl, HA, HJ13, BK175, HB⟩ := hcut
      cases kq with
      | zero => exact absurd HA.out (by simp [spec_Room.j1])
      | succ kj13 =>
       have H := HA.out
       clear HA
       simp only [spec_Room.j1] at H
       replace H := ib H
       rcases H with ⟨rfl, H⟩ | ⟨rfl, H⟩
       ·replace H := bn H
        obtain ⟨t178, A20, H⟩ := H
        try dsimp only at H
        replace H := bn H
        obtain ⟨t179, A21, H⟩ := H
        try dsimp only at H
        obtain rfl := Option.some.inj H
        try go_wp2
        replace BK175 := bd BK175
        replace HB := hd HB
        refine st0 7 (fun w' => CA w' gb175 0 [.int .i64 t170, .int .i64 t171, .int .u32 t172, .int .i64 t173]) [] (cx BK175) ?_; intro hHeld
        generalize wc.drew = w22 at BK175 HB hHeld ⊢
        refine pu 0 36 (bl 7 1) ?_
        refine pu 2 38 (bl 7 5) ?_
        refine tk 3 39 (bl 7 13) ?_
        refine on_ 1 (some 37) (bl 7 15) (fun K hK => ?_)
        refine gq Tryz.func85 (spec_PerPage.calls _ _ _ _ A20.out) ?_
        rintro e w' ⟨rfl, ⟨nd, rfl⟩⟩
        refine ⟨_, rfl, ?_⟩
        refine hK.out _ _ (cx BK175) (fun hHeld => ?_)
        clear hK K
        refine nm ?_
        refine on_ 4 (some 40) (bl 7 31) (fun K hK => ?_)
        refine gq Tryz.func86 (spec_Ones.calls _ _ _ _ A21.out) ?_
        rintro e w23 ⟨rfl, hb⟩
        refine ⟨_, rfl, ?_⟩
        replace BK175 := b_ BK175 hb
        replace HB := hs hb
        (try clear hb)
        (try clear hb2)
        (try clear hk)
        (try clear hi)
        refine hK.out _ _ (cx BK175) (fun hHeld => ?_)
        clear hK K
        refine nm ?_
        refine pu 5 41 (bl 7 63) ?_
        refine pu 6 4 (bl 7 127) ?_
        refine dn ?_ _
        try go_wp2
        go_ret
        exact ⟨rt, bw⟩
       ·obtain rfl := Option.some.inj H
        go_wp2
        go_ret
        exact ⟨rt, bw⟩

/-! ### spec_ClassOf: function 62 -/
mutual
def spec_ClassOf.l0 : Nat → Int → Int → Option (Int)
 | 0, _, _ => none
 | k + 1, x0, x3 => if x3 < 5 then (spec_ClassOf.j1 k x0 x3 (decide (x0 ≥ 1))) else (spec_ClassOf.j1 k x0 x3 false)
def spec_ClassOf.j1 : Nat → Int → Int → Bool → Option (Int)
 | 0, _, _, _ => none
 | k + 1, x0, x3, x9 => if x9 = true then ((spec_l04Pow.f k x3).bind fun t180 => (if t180 ≥ x0 then (some x3) else (spec_ClassOf.l0 k x0 (wrap64 (x3 + 1))))) else (some (-1))
end
def spec_ClassOf.f (k : Nat) (a0 : Int) : Option (Int) := spec_ClassOf.l0 k a0 0
theorem spec_ClassOf.mono_l : ∀ k, (∀ y0 y1, LeO (spec_ClassOf.l0 k y0 y1) (spec_ClassOf.l0 (k + 1) y0 y1)) ∧ (∀ y0 y1 y2, LeO (spec_ClassOf.j1 k y0 y1 y2) (spec_ClassOf.j1 (k + 1) y0 y1 y2))
 | 0 => ⟨fun _ _ r h => by simp [spec_ClassOf.l0] at h, fun _ _ _ r h => by simp [spec_ClassOf.j1] at h⟩
 | k + 1 => by
  obtain ⟨ih0, ih1⟩ := spec_ClassOf.mono_l k
  refine ⟨?_, ?_⟩
  ·intro y0 y1
   unfold spec_ClassOf.l0
   repeat' first
    | (with_reducible first | exact ih0 .. | exact ih1 .. | exact spec_l04Pow.mono .. | exact LeO.refl _ | exact LeO.none _ | refine LeO.ite ?_ ?_ | refine LeO.bind ?_ (fun _ => ?_))
    | exact LeO.none _ | refine LeO.ite ?_ ?_ | refine LeO.bind ?_ (fun _ => ?_)
  ·intro y0 y1 y2
   unfold spec_ClassOf.j1
   repeat' first
    | (with_reducible first | exact ih0 .. | exact ih1 .. | exact spec_l04Pow.mono .. | exact LeO.refl _ | exact LeO.none _ | refine LeO.ite ?_ ?_ | refine LeO.bind ?_ (fun _ => ?_))
    | exact LeO.none _ | refine LeO.ite ?_ ?_ | refine LeO.bind ?_ (fun _ => ?_)
theorem spec_ClassOf.mono : ∀ a0 k, LeO (spec_ClassOf.f k a0) (spec_ClassOf.f (k + 1) a0) := by
 intro a0 k
 obtain ⟨ih0, ih1⟩ := spec_ClassOf.mono_l k
 unfold spec_ClassOf.f
 repeat' first
  | (with_reducible first | exact ih0 .. | exact ih1 .. | exact spec_l04Pow.mono .. | exact LeO.refl _ | exact LeO.none _ | refine LeO.ite ?_ ?_ | refine LeO.bind ?_ (fun _ => ?_))
  | exact LeO.none _ | refine LeO.ite ?_ ?_ | refine LeO.bind ?_ (fun _ => ?_)
set_option maxHeartbeats 2000000 in
set_option maxRecDepth 100000 in
theorem spec_ClassOf.calls (k : Nat) (a0 : Int) (r : Int) (w : World) (h : spec_ClassOf.f k a0 = some r) :
  Calls Tryz.prog 62 #[.int .i64 a0] w fun e w' => e = .returned (.int .i64 r) ∧ Drawn0 w w' := by
 unfold spec_ClassOf.f at h
 have H := h
 clear h
 have H' := Aside0.mk H
 clear H
 go_enter Tryz.func62, Tryz.ntmps62
 go_wp2
 go_loopg [3] k (fun kq v3 w' => ∃ (x3_1 : Int), v3 = .int .i64 x3_1 ∧ Aside0 (spec_ClassOf.l0 kq a0 x3_1 = some r) ∧ Aside0 (kq ≤ k) ∧ Drawn0 w w')
 case atStart => exact ⟨(0), ev, H', ⟨Nat.le_refl _⟩, dr⟩
 case round =>
  clear H'
  obtain ⟨x3_1, rfl, HA, HK1, ⟨m1, rfl⟩⟩ := hrel
  cases gk with
  | zero => exact absurd HA.out (by simp [spec_ClassOf.l0])
  | succ k1 =>
   have H := HA.out
   clear HA
   simp only [spec_ClassOf.l0] at H
   have HC2 := Aside0.mk H
   clear H
   go_upto_region 2 with (fail)
   go_cut [9] (fun v9 wc => ∃ (kq : Nat) (x9_1 : Bool), v9 = .bool x9_1 ∧ Aside0 (spec_ClassOf.j1 kq a0 x3_1 x9_1 = some r) ∧ Aside0 (kq ≤ k1) ∧ Drawn0 w wc)
   case first =>
    have H := HC2.out
    clear HC2
    replace H := ilt H
    rcases H with ⟨c3b0, H⟩ | ⟨c3b0, H⟩
    ·(first | rw [c3b0] | (simp only [i64_w, i32_w]; rw [c3b0]) | (simp only [c3b2, Bool.not_true, Bool.not_false]) | (simp only [c3b1, Bool.not_true, Bool.not_false]) | skip)
     have H' := Aside0.mk H
     clear H
     go_wp2
     go_meet
     case rel => exact ⟨_, (decide (a0 ≥ 1)), ev, H', ⟨by have := HK1.out; first | omega | exact Nat.le_refl _⟩, dr⟩
    ·(first | rw [c3b0] | (simp only [i64_w, i32_w]; rw [c3b0]) | (simp only [c3b2, Bool.not_true, Bool.not_false]) | (simp only [c3b1, Bool.not_true, Bool.not_false]) | skip)
     have H' := Aside0.mk H
     clear H
     go_wp2
     go_meet
     case rel => exact ⟨_, (false), ev, H', ⟨by have := HK1.out; first | omega | exact Nat.le_refl _⟩, dr⟩
   case rest =>
    clear HC2
    obtain ⟨kq, x9_1, rfl, HA, HJ1, ⟨mc1, rfl⟩⟩ := hcut
    cases kq with
    | zero => exact absurd HA.out (by simp [spec_ClassOf.j1])
    | succ kj1 =>
     have H := HA.out
     clear HA
     simp only [spec_ClassOf.j1] at H
     replace H := ib H
     rcases H with ⟨rfl, H⟩ | ⟨rfl, H⟩
     ·replace H := bn H
      obtain ⟨t180, A5, H⟩ := H
      try dsimp only at H
      have HU6 := Aside0.mk H
      clear H
      go_upto_if 15 with (first | ((with_reducible refine gf 67 ?_); refine gc Tryz.func67 (some 13) (spec_l04Pow.calls _ _ _ _ A5.out) ?_; rintro e w' ⟨rfl, ⟨nd, rfl⟩⟩; refine ⟨_, rfl, ?_⟩))
      (try refine ap ?_)
      have H := HU6.out
      clear HU6
      replace H := ige H
      rcases H with ⟨c7b0, H⟩ | ⟨c7b0, H⟩
      ·(first | rw [c7b0] | (simp only [i64_w, i32_w]; rw [c7b0]) | (simp only [c7b2, Bool.not_true, Bool.not_false]) | (simp only [c7b1, Bool.not_true, Bool.not_false]) | skip)
       obtain rfl := Option.some.inj H
       go_wp2
       go_ret
       exact ⟨ev, dr⟩
      ·(first | rw [c7b0] | (simp only [i64_w, i32_w]; rw [c7b0]) | (simp only [c7b2, Bool.not_true, Bool.not_false]) | (simp only [c7b1, Bool.not_true, Bool.not_false]) | skip)
       have H' := Aside0.mk H
       clear H
       go_wp2
       go_roundg kj1
       case measure => have := HK1.out; have := HJ1.out; omega
       case rel => exact ⟨(wrap64 (x3_1 + 1)), ev, H', ⟨by have := HK1.out; have := HJ1.out; omega⟩, dr⟩
     ·obtain rfl := Option.some.inj H
      go_wp2
      go_ret
      exact ⟨ev, dr⟩

/-! ### spec_ClassSize: function 38 -/
def spec_ClassSize.f (k : Nat) (a0 : Int) : Option (Int) := (spec_l04Class.f a0).bind fun t181 => (if t181 = true then ((spec_l04Pow.f k a0).bind fun t182 => (some t182)) else (some 0))
theorem spec_ClassSize.mono : ∀ a0 k, LeO (spec_ClassSize.f k a0) (spec_ClassSize.f (k + 1) a0) := by
 intro a0 k
 unfold spec_ClassSize.f
 repeat' first
  | (with_reducible first | exact spec_l04Pow.mono .. | exact LeO.refl _ | exact LeO.none _ | refine LeO.ite ?_ ?_ | refine LeO.bind ?_ (fun _ => ?_))
  | exact LeO.none _ | refine LeO.ite ?_ ?_ | refine LeO.bind ?_ (fun _ => ?_)
set_option maxHeartbeats 2000000 in
set_option maxRecDepth 100000 in
theorem spec_ClassSize.calls (k : Nat) (a0 : Int) (r : Int) (w : World) (h : spec_ClassSize.f k a0 = some r) :
  Calls Tryz.prog 38 #[.int .i64 a0] w fun e w' => e = .returned (.int .i64 r) ∧ Drawn0 w w' := by
 unfold spec_ClassSize.f at h
 have H := h
 clear h
 replace H := bn H
 obtain ⟨t181, A2, H⟩ := H
 try dsimp only at H
 have HU3 := Aside0.mk H
 clear H
 go_enter Tryz.func38, Tryz.ntmps38
 go_upto_if 5 with (first | ((with_reducible refine gf 66 ?_); refine gc Tryz.func66 (some 4) (spec_l04Class.calls _ _ _ A2.out) ?_; rintro e w' ⟨rfl, ⟨nd, rfl⟩⟩; refine ⟨_, rfl, ?_⟩))
 (try refine ap ?_)
 have H := HU3.out
 clear HU3
 replace H := ib H
 rcases H with ⟨rfl, H⟩ | ⟨rfl, H⟩
 ·(try simp only [Bool.not_true, Bool.not_false])
  replace H := bn H
  obtain ⟨t182, A5, H⟩ := H
  try dsimp only at H
  obtain rfl := Option.some.inj H
  go_wp2_with (first | ((with_reducible refine gf 67 ?_); refine gc Tryz.func67 (some 7) (spec_l04Pow.calls _ _ _ _ A5.out) ?_; rintro e w' ⟨rfl, ⟨nd, rfl⟩⟩; refine ⟨_, rfl, ?_⟩))
  go_ret
  exact ⟨ev, dr⟩
 ·(try simp only [Bool.not_true, Bool.not_false])
  obtain rfl := Option.some.inj H
  go_wp2
  go_ret
  exact ⟨ev, dr⟩

/-! ### spec_BlockAt: function 98 -/
def spec_BlockAt.j0 : Nat → Int → Bool → Int → Int → Int → Int → Option (Int × Int × Bool)
 | 0, _, _, _, _, _, _ => none
 | k + 1, x1, x30, x189000, x189001, x189002, x189003 => if x30 = true then (some (0, 0, false)) else ((spec_ClassSize.f k x189001).bind fun t189 => ((spec_l01Bits.f k x189002).bind fun t190 => (if t189 = 0 then (none) else (if 0 ≤ (wrap64 (Int.tdiv x1 t189)) then (if (wrap64 (Int.tdiv x1 t189)) < (t190.length : Int) then (if (rd t190 (wrap64 (Int.tdiv x1 t189))) = 0 then (some (0, 0, false)) else (some (wrap64 ((wrap64 (Int.tdiv x1 t189)) * t189), t189, true))) else (none)) else (none)))))
def spec_BlockAt.f (k : Nat) (a0 : Int) (a1 : Int) : Option (Int × Int × Bool) := (spec_CtlRead.f k a0).bind fun bt183 => (if bt183.2.2.2.2 = true then (if bt183.1 = 1 then (if a1 < 0 then (spec_BlockAt.j0 k a1 true bt183.1 bt183.2.1 bt183.2.2.1 bt183.2.2.2.1) else (spec_BlockAt.j0 k a1 (decide (a1 ≥ 16)) bt183.1 bt183.2.1 bt183.2.2.1 bt183.2.2.2.1)) else (spec_BlockAt.j0 k a1 true bt183.1 bt183.2.1 bt183.2.2.1 bt183.2.2.2.1)) else (spec_BlockAt.j0 k a1 true bt183.1 bt183.2.1 bt183.2.2.1 bt183.2.2.2.1))
theorem spec_BlockAt.mono_l : ∀ k, (∀ y0 y1 y2 y3 y4 y5, LeO (spec_BlockAt.j0 k y0 y1 y2 y3 y4 y5) (spec_BlockAt.j0 (k + 1) y0 y1 y2 y3 y4 y5))
 | 0 => fun _ _ _ _ _ _ r h => by simp [spec_BlockAt.j0] at h
 | k + 1 => by
  have ih0 := spec_BlockAt.mono_l k
  ·intro y0 y1 y2 y3 y4 y5
   unfold spec_BlockAt.j0
   repeat' first
    | (with_reducible first | exact ih0 .. | exact spec_ClassSize.mono .. | exact spec_CtlRead.mono .. | exact spec_l01Bits.mono .. | exact LeO.refl _ | exact LeO.none _ | refine LeO.ite ?_ ?_ | refine LeO.bind ?_ (fun _ => ?_))
    | exact LeO.none _ | refine LeO.ite ?_ ?_ | refine LeO.bind ?_ (fun _ => ?_)
theorem spec_BlockAt.mono : ∀ a0 a1 k, LeO (spec_BlockAt.f k a0 a1) (spec_BlockAt.f (k + 1) a0 a1) := by
 intro a0 a1 k
 have ih0 := spec_BlockAt.mono_l k
 unfold spec_BlockAt.f
 repeat' first
  | (with_reducible first | exact ih0 .. | exact spec_ClassSize.mono .. | exact spec_CtlRead.mono .. | exact spec_l01Bits.mono .. | exact LeO.refl _ | exact LeO.none _ | refine LeO.ite ?_ ?_ | refine LeO.bind ?_ (fun _ => ?_))
  | exact LeO.none _ | refine LeO.ite ?_ ?_ | refine LeO.bind ?_ (fun _ => ?_)
set_option maxHeartbeats 2000000 in
set_option maxRecDepth 100000 in
theorem spec_BlockAt.calls (k : Nat) (a0 : Int) (a1 : Int) (r1 : Int) (r2 : Int) (r3 : Bool) (w : World) (h : spec_BlockAt.f k a0 a1 = some (r1, r2, r3)) :
  Calls Tryz.prog 98 #[.int .u32 a0, .int .i64 a1] w fun e w' => e = .returned (.tuple #[.int .i64 r1, .int .i64 r2, .bool r3]) ∧ Below w.heap.size w w' := by
 have hu75 := Tryz.underlying75
 have HB := Aside0.mk (Below.refl w.heap.size w)
 unfold spec_BlockAt.f at h
 have H := h
 clear h
 replace H := bn H
 obtain ⟨⟨t183, t184, t185, t186, t187⟩, A3, H⟩ := H
 try dsimp only at H
 have HC4 := Aside0.mk H
 clear H
 go_enter Tryz.func98, Tryz.ntmps98
 go_upto_region 2 with (first | ((with_reducible refine gf 36 ?_); refine gc Tryz.func36 (some 13) (spec_CtlRead.calls _ _ _ _ _ _ _ _ A3.out) ?_; rintro e w5 ⟨rfl, hb⟩; refine ⟨_, rfl, ?_⟩; replace HB := hs hb; try clear hb) | ((with_reducible refine gd 7 ?_); refine bx 7 75 #[.int .i64 0, .int .i64 0, .int .u32 0, .int .i64 0] ?_; clear HB; intro gb188 w6 hg BK188 hb GE188 HB; clear hb hg; obtain ⟨z7_0, z7_1, z7_2, z7_3⟩ := ca4 BK188; obtain ⟨f7_0, f7_1, f7_2, f7_3⟩ := fa4 BK188))
 (try refine ap ?_)
 go_cut [30] (fun v30 wc => ∃ (kq : Nat) (x30_3 : Bool), v30 = .bool x30_3 ∧ Aside0 (spec_BlockAt.j0 kq a1 x30_3 t183 t184 t185 t186 = some (r1, r2, r3)) ∧ Aside0 (kq ≤ k) ∧ Aside0 (wc.heap[gb188]? = some (.cells #[.int .i64 t183, .int .i64 t184, .int .u32 t185, .int .i64 t186] 75 (0, 0))) ∧ Aside0 (Below w.heap.size w wc))
 case first =>
  have H := HC4.out
  clear HC4
  replace H := ib H
  rcases H with ⟨rfl, H⟩ | ⟨rfl, H⟩
  ·(try simp only [Bool.not_true, Bool.not_false])
   replace H := ieq H
   rcases H with ⟨c9b0, c9b1, H⟩ | ⟨c9, c9b0, c9b1, H⟩
   ·replace H := ilt H
    rcases H with ⟨c10b0, H⟩ | ⟨c10b0, H⟩
    ·have H' := Aside0.mk H
     clear H
     obtain ⟨z11_0, z11_1, z11_2, z11_3⟩ := ca4 BK188
     obtain ⟨f11_0, f11_1, f11_2, f11_3⟩ := fa4 BK188
     go_wp2
     go_meet
     case rel => exact ⟨_, (true), ev, H', ⟨om⟩, ⟨bp BK188⟩, ⟨bw⟩⟩
    ·have H' := Aside0.mk H
     clear H
     obtain ⟨z12_0, z12_1, z12_2, z12_3⟩ := ca4 BK188
     obtain ⟨f12_0, f12_1, f12_2, f12_3⟩ := fa4 BK188
     go_wp2
     go_meet
     case rel => exact ⟨_, (decide (a1 ≥ 16)), ev, H', ⟨om⟩, ⟨bp BK188⟩, ⟨bw⟩⟩
   ·have H' := Aside0.mk H
    clear H
    obtain ⟨z13_0, z13_1, z13_2, z13_3⟩ := ca4 BK188
    obtain ⟨f13_0, f13_1, f13_2, f13_3⟩ := fa4 BK188
    go_wp2
    go_meet
    case rel => exact ⟨_, (true), ev, H', ⟨om⟩, ⟨bp BK188⟩, ⟨bw⟩⟩
  ·(try simp only [Bool.not_true, Bool.not_false])
   have H' := Aside0.mk H
   clear H
   go_wp2
   go_meet
   case rel => exact ⟨_, (true), ev, H', ⟨om⟩, ⟨bp BK188⟩, ⟨bw⟩⟩
 case rest =>
  clear HC4
  (try clear z7_0 z7_1 z7_2 z7_3)
  (try clear f7_0 f7_1 f7_2 f7_3)
  obtain ⟨kq, x30_3, rfl, HA, HJ3, BK188, HB⟩ := hcut
  cases kq with
  | zero => exact absurd HA.out (by simp [spec_BlockAt.j0])
  | succ kj3 =>
   have H := HA.out
   clear HA
   simp only [spec_BlockAt.j0] at H
   replace H := ib H
   rcases H with ⟨rfl, H⟩ | ⟨rfl, H⟩
   ·simp only [Option.some.injEq, Prod.mk.injEq] at H
    obtain ⟨rfl, rfl, rfl⟩ := H
    go_wp2
    go_ret3
    exact ⟨rt, bw⟩
   ·replace H := bn H
    obtain ⟨t189, A15, H⟩ := H
    try dsimp only at H
    replace H := bn H
    obtain ⟨t190, A16, H⟩ := H
    try dsimp only at H
    by_cases c17 : t189 = 0
    ·rw [if_pos c17] at H
     exact absurd H (by simp)
    ·rw [if_neg c17] at H
     have c17b0 : (t189 == 0) = false := beq_eq_false_iff_ne.mpr c17
     have c17b1 : (t189 != 0) = true := bne_iff_ne.mpr c17
     obtain ⟨ji18, hji18⟩ : ∃ j_ : Int, (wrap64 (Int.tdiv a1 t189)) = j_ := ⟨_, rfl⟩
     first | rw [hji18] at H | simp only [hji18] at H
     (try rw [hji18] at A15)
     (try rw [hji18] at A16)
     have hji18w : (IntKind.i64.wrap (Int.tdiv a1 t189)) = ji18 := (i64_w _).trans hji18
     by_cases c19 : 0 ≤ (ji18)
     ·rw [if_pos c19] at H
      have c19b0 : decide (0 ≤ (ji18)) = true := decide_eq_true c19
      clear c19
      by_cases c20 : (ji18) < (t190.length : Int)
      ·rw [if_pos c20] at H
       have c20b0 : decide ((ji18) < (t190.length : Int)) = true := decide_eq_true c20
       clear c20
       have HU21 := Aside0.mk H
       clear H
       obtain ⟨z22_0, z22_1, z22_2, z22_3⟩ := ca4 BK188
       obtain ⟨f22_0, f22_1, f22_2, f22_3⟩ := fa4 BK188
       go_upto_if 43 with (first | ((with_reducible refine gf 38 ?_); refine gc Tryz.func38 (some 33) (spec_ClassSize.calls _ _ _ _ A15.out) ?_; rintro e w' ⟨rfl, ⟨nd, rfl⟩⟩; refine ⟨_, rfl, ?_⟩) | ((with_reducible refine gf 65 ?_); refine gc Tryz.func65 (some 36) (spec_l01Bits.calls _ _ _ _ A16.out) ?_; rintro e w23 ⟨v191, rfl, ho0, hb⟩; refine ⟨_, rfl, ?_⟩; have HO192 := Aside0.mk (Kd.R_lower ho0 (below_size bw)); replace BK188 := b_ BK188 hb; replace HB := hs hb; try clear hb; (try clear ho0); obtain ⟨Ao24, co24, eo24⟩ := Kd.R_slice HO192.out; subst eo24; have p193 : 0 ≤ ((ji18) : Int) := of_decide_eq_true as_; have q193 : (ji18) < (t190.length : Int) := of_decide_eq_true as_; obtain ⟨ad193, e193, hx193_0⟩ := Kd.at_int (Kd.R_reads' HO192.out).2.2 (ji18) p193 q193; cases e193; replace p193 := eq_true p193; replace q193 := eq_true q193))
       (try refine ap ?_)
       have H := HU21.out
       clear HU21
       replace H := ieq H
       rcases H with ⟨c25b0, c25b1, H⟩ | ⟨c25, c25b0, c25b1, H⟩
       ·(first | rw [c25b0] | (simp only [i64_w, i32_w]; rw [c25b0]) | (simp only [c25b2, Bool.not_true, Bool.not_false]) | (simp only [c25b1, Bool.not_true, Bool.not_false]) | skip)
        simp only [Option.some.injEq, Prod.mk.injEq] at H
        obtain ⟨rfl, rfl, rfl⟩ := H
        go_wp2
        go_ret3
        exact ⟨by first | exact rt1 | (simp only [← hji18]; exact rt1) | exact rt, bw⟩
       ·(first | rw [c25b0] | (simp only [i64_w, i32_w]; rw [c25b0]) | (simp only [c25b2, Bool.not_true, Bool.not_false]) | (simp only [c25b1, Bool.not_true, Bool.not_false]) | skip)
        simp only [Option.some.injEq, Prod.mk.injEq] at H
        obtain ⟨rfl, rfl, rfl⟩ := H
        go_wp2
        go_ret3
        exact ⟨by first | exact rt1 | (simp only [← hji18]; exact rt1) | exact rt, bw⟩
      ·rw [if_neg c20] at H
       exact absurd H (by simp)
     ·rw [if_neg c19] at H
      exact absurd H (by simp)

end Go.Proofs.YtobboonnfocalaaGreatDoor.PG1
