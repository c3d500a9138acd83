/- The laws' marks in a machine: its words, then its warps. Conditions: none. -/
import Derived.Test.YtobboonnfocalaaGreatDoorMarkSG1
import Derived.Test.YtobboonnfocalaaGreatDoorPG1x4
set_option linter.unusedVariables false
set_option linter.unusedSimpArgs false
namespace Go.Proofs.YtobboonnfocalaaGreatDoor.PG1
open Go.RowKit Go.Proofs.YtobboonnfocalaaGreatDoor.Base Go.Proofs.YtobboonnfocalaaGreatDoor.T Go.Proofs.YtobboonnfocalaaGreatDoorW.PrintWords Go.Proofs.YtobboonnfocalaaGreatDoorW.PrintLast Go.Proofs.YtobboonnfocalaaGreatDoorW.PrintMore

theorem S_off {α β : Type} {d : Kd α} {d' : Kd β} {e e' base base' : Nat} {w : World} {ok ok' : Nat → Prop} {v u : Value} {xs : List α} {ys : List β} (hs : Kd.S d e w base ok v xs) (hr : d'.R e' w base' ok' u ys) (ht : ∀ q, q ∈ e :: d.E → q ≠ e') : Kd.S d e w base (fun k => ok k ∧ some k ≠ u.ownBlock) v xs := by
  cases ho : u.ownBlock with
  | none => exact Kd.S_mono hs (fun k hk => ⟨hk, fun e_ => by cases e_⟩)
  | some g =>
    obtain ⟨cells, hc⟩ := Kd.R_typed hr g ho
    exact Kd.S_mono (Kd.S_types hs hc ht) (fun k hk => ⟨hk.1, fun e_ => hk.2 (by injection e_)⟩)
theorem R_off {α β : Type} {d : Kd α} {d' : Kd β} {e e' base base' : Nat} {w : World} {ok ok' : Nat → Prop} {v u : Value} {xs : List α} {ys : List β} (hs : d.R e w base ok v xs) (hr : d'.R e' w base' ok' u ys) (ht : ∀ q, q ∈ e :: d.E → q ≠ e') : d.R e w base (fun k => ok k ∧ some k ≠ u.ownBlock) v xs := by
  cases ho : u.ownBlock with
  | none => exact Kd.R_mono hs (fun k hk => ⟨hk, fun e_ => by cases e_⟩)
  | some g =>
    obtain ⟨cells, hc⟩ := Kd.R_typed hr g ho
    exact Kd.R_mono (Kd.R_types hs hc ht) (fun k hk => ⟨hk.1, fun e_ => hk.2 (by injection e_)⟩)
theorem markUint32S_loop : ∀ (r p : List Int) (y : Int) (k : Nat), r.length < k → p.length + r.length ≤ 9000000 → 0 ≤ y ∧ y + r.length ≤ 9000000 → laws_markUint32S.l0 k (p ++ r) y (p.length : Int) = some (y + r.length, p ++ ups y r.length)
  | [], p, y, k, hk, hn, hy => by
    obtain ⟨k, rfl⟩ : ∃ m, k = m + 1 := ⟨k - 1, by omega⟩
    simp only [laws_markUint32S.l0]
    rw [if_neg (by simp)]
    simp [ups]
  | e :: r, p, y, k, hk, hn, hy => by
    obtain ⟨k, rfl⟩ : ∃ m, k = m + 1 := ⟨k - 1, by omega⟩
    rw [List.length_cons] at hk hn hy
    have ih := markUint32S_loop r (p ++ [y]) (y + 1) k (by omega) (by simp; omega) (by omega)
    rw [List.length_append, List.length_singleton, List.append_assoc, List.singleton_append] at ih
    simp only [laws_markUint32S.l0]
    rw [if_pos (by rw [List.length_append, List.length_cons]; omega), if_pos (by omega), Int.toNat_natCast, w64 (n := y + 1) (by omega) (by omega), w64 (by omega) (by omega), show (p.length : Int) + 1 = ((p.length + 1 : Nat) : Int) by omega]
    have hm : y % 4294967296 = y := by omega
    have hs : (p ++ e :: r).set p.length (y % 4294967296) = p ++ y :: r := by rw [hm]; simp
    rw [hs, ih, List.length_cons, ups, List.append_assoc, List.singleton_append, show y + 1 + (r.length : Int) = y + ((r.length + 1 : Nat) : Int) by omega]
theorem markUint32S_at (l : List Int) (y : Int) (k : Nat) (hk : l.length < k) (hn : l.length ≤ 9000000) (hy : 0 ≤ y ∧ y + l.length ≤ 9000000) : laws_markUint32S.f k l y = some (y + l.length, ups y l.length) := by
  unfold laws_markUint32S.f
  have := markUint32S_loop l [] y k hk (by simpa using hn) hy
  simpa using this
theorem markMem_at (l : List Int) (y : Int) (k : Nat) (hk : l.length < k) (hn : l.length ≤ 9000000) (hy : 0 ≤ y ∧ y + l.length ≤ 9000000) : laws_markMem.f k l y = some (y + l.length, ups y l.length) := by
  unfold laws_markMem.f
  rw [markUint32S_at l y k hk hn hy]
  rfl

/-! ### laws_markMach: function 10 -/
def laws_markMach.f (l0 : List Int) (l1 : List S49) (a1 : Int) : Option Int := if 0 ≤ a1 ∧ a1 + l0.length + mkS l1 ≤ 9000000 then some (a1 + l0.length + mkS l1) else none
set_option maxHeartbeats 4000000 in
set_option maxRecDepth 100000 in
theorem laws_markMach.calls (P0_ : Nat → Prop) (u0 u1 : Value) (l0 : List Int) (l1 : List S49) (a1 r : Int) (w0 w : World) (hB : Below w0.heap.size w0 w) (ho0 : Kd.R (Kd.int .u32) 47 w w0.heap.size P0_ u0 l0) (ho1 : Kd.S k49 49 w w0.heap.size P0_ u1 l1) (h : laws_markMach.f l0 l1 a1 = some r) :
    Calls Tryz.prog 10 #[.agg #[u0, u1], .int .i64 a1] w fun e w' => e = .returned (.int .i64 r) ∧ Kd.R (Kd.int .u32) 47 w' w0.heap.size P0_ u0 (ups a1 l0.length) ∧ Kd.S k49 49 w' w0.heap.size P0_ u1 (mkL (a1 + l0.length) l1) ∧ Below w0.heap.size w0 w' ∧ Kept w w' P0_ := by
  unfold laws_markMach.f at h
  split at h
  · rename_i hc
    have hn := mkS_nonneg l1
    obtain rfl := Option.some.inj h
    clear h
    obtain ⟨A0, c0, rfl⟩ := Kd.R_slice ho0
    obtain ⟨A1, c1, rfl⟩ := Kd.S_slice ho1
    have hu1 := Tryz.underlying37
    have hu2 := Tryz.underlying34
    obtain ⟨ob, hob⟩ : ∃ ob : Obj, ob = .cells #[.slice A0 l0.length c0, .slice A1 l1.length c1] 37 := ⟨_, rfl⟩
    have hB1 : Below w0.heap.size w0 (w.alloc ob) := hB.alloc hB.size _
    have hm1 : (w.alloc ob).heap[w.heap.size]? = some ob := blk_new w ob
    have r1 := Kd.R_alloc ho0 ob
    have s1 := S_off (Kd.S_alloc ho1 ob) r1 (by decide)
    have hlt : ∀ k, (Value.slice A0 l0.length c0).ownBlock = some k → k < w.heap.size := Kd.R_lt ho0
    obtain ⟨y1, hy1⟩ : ∃ z : Int, z = a1 + l0.length := ⟨_, rfl⟩
    have call1 := laws_markMem.calls (l0.length + 1) (fun k_ => some k_ = (Value.slice A0 l0.length c0).ownBlock) _ l0 a1 y1 (ups a1 l0.length) w0 (w.alloc ob) hB1 (Kd.R_tight rfl r1) (by rw [markMem_at l0 a1 (l0.length + 1) (by omega) (by omega) (by omega), hy1])
    have hK1 : Kept w (w.alloc ob) P0_ := (Kept.refl w P0_).alloc ob
    have hP0 : ∀ k, some k = (Value.slice A0 l0.length c0).ownBlock → P0_ k := fun k e => ho0.1 k e.symm
    have hm2 : ∀ w2, Kept (w.alloc ob) w2 (fun k_ => some k_ = (Value.slice A0 l0.length c0).ownBlock) → w2.heap[w.heap.size]? = some (.cells #[.slice A0 l0.length c0, .slice A1 l1.length c1] 37) := fun w2 hk => by rw [← hob]; exact blk_kept hm1 hk (fun e => Nat.lt_irrefl _ (hlt _ e.symm))
    rw [show a1 + (l0.length : Int) + mkS l1 = y1 + mkS l1 by rw [hy1], ← hy1]
    have HC := Aside0.mk hc
    have HN := Aside0.mk hn
    have HY := Aside0.mk hy1
    clear hc hn hy1 ho0 ho1 hm1 hlt
    subst hob
    go_enter Tryz.func10, Tryz.ntmps10
    go_wp2_with (first
      | (go_at_call 27; refine call1.mono ?_; rintro e w2 ⟨rfl, hR2, hb2, hk2⟩; clear call1; have z1 : w2.cell? ⟨w.heap.size, 1, none⟩ = some (.slice A1 l1.length c1) := (blk_cell (hm2 w2 hk2) 1).trans rfl; have s2 := Kd.S_step s1 (fun k hk hlt => hk2.2 k hlt (fun e => hk.2 e)); have call2 := laws_markWarpS.calls (fun k_ => P0_ k_ ∧ some k_ ≠ (Value.slice A0 l0.length c0).ownBlock) _ l1 y1 w0 w2 hb2 s2 (by have := HC.out; have := HY.out; omega) (by have := HC.out; have := HY.out; omega))
      | (go_at_call 28; refine call2.mono ?_; rintro e w3 ⟨rfl, hS3, hb3, hk3⟩; clear call2))
    go_ret
    refine ⟨rfl, Kd.R_mono (R_kept_ (Kd.R_tight rfl hR2) hk3 (fun k e hp => hp.2 e)) (fun k e => hP0 k e), Kd.S_mono hS3 (fun _ hk => hk.1), hb3, (hK1.then_ hk2 (fun k e => .inl (hP0 k e))).then_ hk3 (fun k hk => .inl hk.1)⟩
  · cases h
end Go.Proofs.YtobboonnfocalaaGreatDoor.PG1
