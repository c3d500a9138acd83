/- slices.Repeat of -1, up to sixteen times. Conditions: none. -/
import Derived.Test.YtobboonnfocalaaGreatDoorPG1x3
import Derived.Test.YtobboonnfocalaaGreatDoorWldG1
import Derived.Shelf.RegionOpenPlain
import Derived.Deep.RegionLaw
import Derived.Lib.Walk
set_option linter.unusedVariables false
set_option linter.unusedSimpArgs false
namespace Go.Proofs.YtobboonnfocalaaGreatDoor.PG1
open Go.RowKit Go.Lib Go.Proofs.YtobboonnfocalaaGreatDoorW.PrintWords Go.Proofs.YtobboonnfocalaaGreatDoorW.PrintLast Go.Proofs.YtobboonnfocalaaGreatDoorW.PrintMore Go.Proofs.YtobboonnfocalaaGreatDoor.Sl

/-- n cells, the first m of them -1. -/
def wn (n m : Nat) : Array Value := (List.replicate m (Value.int .i64 (-1)) ++ List.replicate (n - m) (Value.int .i64 0)).toArray
theorem madeN (n : Nat) : madeCells #[Value.int .i64 0] n = wn n 0 := by
  apply Array.ext
  · simp [madeCells, wn]
  · intro i h1 h2
    have e : (wn n 0) = (List.replicate n (Value.int .i64 0)).toArray := rfl
    simp only [e, List.getElem_toArray, List.getElem_replicate]
    simp [madeCells, Nat.mod_one]
theorem wn_size {n m : Nat} (h : m ≤ n) : (wn n m).size = n := by simp [wn]; omega
theorem wn_get {n m j : Nat} (h : m ≤ n) : (wn n m)[j]? = if j < m then some (.int .i64 (-1)) else if j < n then some (.int .i64 0) else none := by
  unfold wn
  rw [List.getElem?_toArray, List.getElem?_append, List.length_replicate]
  by_cases c : j < m
  · rw [if_pos c, if_pos c, List.getElem?_replicate, if_pos c]
  · rw [if_neg c, if_neg c, List.getElem?_replicate]
    by_cases d : j < n
    · rw [if_pos d, if_pos (by omega)]
    · rw [if_neg d, if_neg (by omega)]
theorem wr_wn {n m k : Nat} (h : m + k ≤ n) : wr (wn n m) m (List.replicate k (.int .i64 (-1))) = wn n (m + k) := by
  apply Array.ext_getElem?
  intro j
  rw [wr_get? _ _ _ _ (by rw [List.length_replicate, wn_size (by omega)]; omega), List.length_replicate, wn_get h, wn_get (by omega), List.getElem?_replicate]
  by_cases c : m ≤ j ∧ j < m + k
  · rw [if_pos c, if_pos (by omega), if_pos (by omega)]
  · rw [if_neg c]
    by_cases d : j < m
    · rw [if_pos d, if_pos (by omega)]
    · rw [if_neg d, if_neg (show ¬ j < m + k by omega)]
theorem reps_rep (w : World) (base : Nat) (ok : Nat → Prop) : ∀ m : Nat, Reps ((Kd.int .i64).M w base ok) 1 (List.replicate m (-1 : Int)) (List.replicate m (Value.int .i64 (-1)))
  | 0 => Reps.none _ _
  | m + 1 => by
    rw [List.replicate_succ, List.replicate_succ]
    exact Reps.one rfl (reps_rep w base ok m)
theorem mulN : ∀ n : Fin 17, bits_Mul.f 1 (n.val : Int) = some (0, (n.val : Int)) := by decide +kernel
set_option maxHeartbeats 4000000 in
set_option maxRecDepth 100000 in
theorem RepeatN (n : Nat) (hn16 : n ≤ 16) (w : World) (vb : Nat) (T : TypeId) (hv : w.heap[vb]? = some (.cells #[.int .i64 (-1)] T (0, 0))) :
    Calls Tryz.prog 22 #[.slice (some ⟨vb, 0, none⟩) 1 1, .int .i64 n] w fun e w' => ∃ v, e = .returned v ∧ Kd.R (Kd.int .i64) 3 w' w.heap.size (fun _ => True) v (List.replicate n (-1)) ∧ Below w.heap.size w w' := by
  have hM : bits_Mul.f 1 (n : Int) = some (0, (n : Int)) := mulN ⟨n, by omega⟩
  have C1 : ∀ W, Calls Tryz.prog 48 #[.int .u64 1, .int .u64 n] W fun e w' => e = .returned (.tuple #[.int .u64 0, .int .u64 n]) ∧ Below W.heap.size W w' := fun W => (bits_Mul.calls 1 n 0 n W hM).mono (by rintro e w' ⟨rfl, ⟨nd, rfl⟩⟩; exact ⟨rfl, pw_below_drewN (Below.refl _ _) _⟩)
  obtain ⟨i0, hi0, hz0, hz1, hz2⟩ := info_parts info3
  have hs1 : (Tryz.prog.info? 3).map (·.size) = some 1 := by rw [hi0]; simp [hz1]
  have hmk : ∀ W : World, (Instr.makeSlice 29 (.int .i64 n) (.int .i64 n)).run Tryz.prog W = .ok (.slice (some ⟨W.heap.size, 0, none⟩) n n) (W.alloc (.cells (wn n 0) 3)) := by
    intro W
    have h := run_makeSlice (P := Tryz.prog) (w := W) 29 3 i0 _ Tryz.underlying29 hi0 hz0 .i64 .i64 n n (by omega) (by omega) (by rw [hz1]; omega) (by rw [hz2]; omega) (by omega)
    rw [hz1, Int.toNat_natCast, Nat.mul_one, show madeCells (Value.int IntKind.i64 0).cells n = wn n 0 from madeN n] at h
    exact h
  have mixed : Tryz.prog.follows .mixedOrders = true := by kernel_rfl
  have hvl : vb < w.heap.size := blk_lt hv
  have HV := Aside0.mk hv
  clear hv hM
  have b1 : decide ((n : Int) < 0) = false := decide_eq_false (by omega)
  have b2 : decide ((n : Int) > 9223372036854775807) = false := decide_eq_false (by omega)
  have u1 : IntKind.u64.wrap (n : Int) = n := by simp [IntKind.wrap, IntKind.signed, IntKind.bits]; omega
  have u2 : IntKind.i64.wrap (n : Int) = n := (i64_w _).trans (by unfold wrap64; omega)
  have hcp0 : ∀ w1 : World, Below w.heap.size w w1 → ∀ ty, (Builtin.copy_ #[29, 29] ty #[.slice (some ⟨w1.heap.size, 0, none⟩) n n, .slice (some ⟨vb, 0, none⟩) 1 1]).run Tryz.prog (w1.alloc (.cells (wn n 0) 3)) = .ok (.int .i64 (Nat.min 1 n : Nat)) ((w1.alloc (.cells (wn n 0) 3)).setCells w1.heap.size 0 (List.replicate (Nat.min 1 n) (.int .i64 (-1)))) := by
    intro w1 hb1 ty
    have hb2 : Below w.heap.size w (w1.alloc (.cells (wn n 0) 3)) := hb1.alloc hb1.size _
    have hh0 : (w1.alloc (.cells (wn n 0) 3)).heap[w1.heap.size]? = some (.cells (wn n 0) 3 (0, 0)) := blk_new _ _
    have hv1 := blk_below HV.out hb2
    have hmn : Nat.min 1 n ≤ 1 ∧ Nat.min 1 n ≤ n := ⟨Nat.min_le_left _ _, Nat.min_le_right _ _⟩
    exact run_copy_size _ _ _ ty 3 1 w1.heap.size 0 n n ⟨vb, 0, none⟩ 1 1 (List.replicate (Nat.min 1 n) (.int .i64 (-1))) Tryz.underlying29 hs1 (by rw [List.length_replicate, Nat.mul_one])
      (fun j v hj => by
        have hlt := (List.getElem?_eq_some_iff.1 hj).1
        rw [List.length_replicate] at hlt
        rw [Addr.add_lit, cell_of_blk hv1, ← hj, List.getElem?_replicate, if_pos hlt, show 0 + j = 0 by omega]
        rfl)
      (fun j hj => by rw [List.length_replicate] at hj; rw [cell_of_blk hh0, Array.getElem?_eq_getElem (by rw [wn_size (by omega)]; omega)]; rfl) (fun j _ => blk_frozen hh0 _) (by intro u hu; rw [List.eq_of_mem_replicate hu]; rfl)
  go_enter Tryz.func22, Tryz.ntmps22
  go_wp2_with (first | (go_at_call 48; refine (C1 _).mono ?_; rintro e w1 ⟨rfl, hb1⟩) | (at_builtin; refine copy_at _ rfl _ _ 29 29 rfl _ _ rfl rfl (hcp0 _ hb1 _) ?_) | (simp only [hmk]))
  have hb2 : Below w.heap.size w (w1.alloc (.cells (wn n 0) 3)) := hb1.alloc hb1.size _
  have hh0 : (w1.alloc (.cells (wn n 0) 3)).heap[w1.heap.size]? = some (.cells (wn n 0) 3 (0, 0)) := blk_new _ _
  have hmn : Nat.min 1 n ≤ 1 ∧ Nat.min 1 n ≤ n := ⟨Nat.min_le_left _ _, Nat.min_le_right _ _⟩
  have hmp : 0 < n → 1 ≤ Nat.min 1 n := fun h => Nat.le_min.2 ⟨Nat.le_refl _, h⟩
  have hh1 : ((w1.alloc (.cells (wn n 0) 3)).setCells w1.heap.size 0 (List.replicate (Nat.min 1 n) (.int .i64 (-1)))).heap[w1.heap.size]? = some (.cells (wn n (Nat.min 1 n)) 3 (0, 0)) := by
    rw [heap_setCells _ 0 _ _ hh0, wr_wn (by omega), Nat.zero_add]
  have hb3 : Below w.heap.size w ((w1.alloc (.cells (wn n 0) 3)).setCells w1.heap.size 0 (List.replicate (Nat.min 1 n) (.int .i64 (-1)))) := below_setCells' hb1.size _ _ _ hb2
  have hg := hb1.size
  generalize (w1.alloc (.cells (wn n 0) 3)).setCells w1.heap.size 0 (List.replicate (Nat.min 1 n) (.int .i64 (-1))) = w3 at hh1 hb3 ⊢
  clear hcp0 hh0 hb2
  generalize w1.heap.size = g at hh1 hg ⊢
  clear hb1
  generalize Nat.min 1 n = m0 at *
  go_loopg [8] n (fun gg s8 wr => ∃ m : Nat, (m ≤ n ∧ (0 < n → 1 ≤ m) ∧ n - m ≤ gg) ∧ s8 = .int .i64 m ∧ Aside0 (wr.heap[g]? = some (.cells (wn n m) 3 (0, 0))) ∧ Aside0 (Below w.heap.size w wr))
  case atStart => exact ⟨m0, by omega, rfl, ⟨hh1⟩, ⟨hb3⟩⟩
  case round =>
    clear hh1 hb3
    obtain ⟨m, hm, rfl, HH, HB⟩ := hrel
    by_cases c : m < n
    · have cb : decide ((m : Int) < (n : Int)) = true := decide_eq_true (by omega)
      have hk : Nat.min m (n - m) ≤ m ∧ Nat.min m (n - m) ≤ n - m ∧ 1 ≤ Nat.min m (n - m) := ⟨Nat.min_le_left _ _, Nat.min_le_right _ _, Nat.le_min.2 ⟨by omega, by omega⟩⟩
      have hc : (Builtin.copy_ #[29, 29] 3 #[.slice (some ⟨g, m, none⟩) (n - m) (n - m), .slice (some ⟨g, 0, none⟩) m n]).run Tryz.prog wr.drew = .ok (.int .i64 (Nat.min m (n - m) : Nat)) (wr.drew.setCells g m (List.replicate (Nat.min m (n - m)) (.int .i64 (-1)))) := by
        exact run_copy_size wr.drew 29 29 3 3 1 g m (n - m) (n - m) ⟨g, 0, none⟩ m n (List.replicate (Nat.min m (n - m)) (.int .i64 (-1))) Tryz.underlying29 hs1 (by rw [List.length_replicate, Nat.mul_one])
          (fun j v hj => by
            have hlt := (List.getElem?_eq_some_iff.1 hj).1
            rw [List.length_replicate] at hlt
            rw [Addr.add_lit]
            show wr.cell? _ = _
            rw [cell_of_blk HH.out, ← hj, List.getElem?_replicate, if_pos hlt, wn_get (by omega), Nat.zero_add, if_pos (by omega)])
          (fun j hj => by
            rw [List.length_replicate] at hj
            show (wr.cell? _).isSome = true
            rw [cell_of_blk HH.out, Array.getElem?_eq_getElem (by rw [wn_size (by omega)]; omega)]
            rfl) (fun j _ => blk_frozen (w := wr.drew) HH.out _) (by intro u hu; rw [List.eq_of_mem_replicate hu]; rfl)
      have hnew : (wr.drew.setCells g m (List.replicate (Nat.min m (n - m)) (.int .i64 (-1)))).heap[g]? = some (.cells (wn n (m + Nat.min m (n - m))) 3 (0, 0)) := by
        rw [heap_setCells _ _ _ _ (show wr.drew.heap[g]? = _ from HH.out), wr_wn (by omega)]
      have hbn : Below w.heap.size w (wr.drew.setCells g m (List.replicate (Nat.min m (n - m)) (.int .i64 (-1)))) := below_setCells' hg _ _ _ (below_drew HB.out)
      generalize Nat.min m (n - m) = k at *
      have s1 : (0 ≤ (m : Int)) = True := eq_true (by omega)
      have s2 : ((m : Int) ≤ (n : Int)) = True := eq_true (by omega)
      have s3 : IntKind.i64.wrap ((m : Int) + (k : Int)) = ((m + k : Nat) : Int) := (i64_w _).trans (by unfold wrap64; omega)
      go_wp2
      go_region_law_o (refine copy_step rfl _ _ 29 29 rfl (.slice (some ⟨g, m, none⟩) (n - m) (n - m)) (.slice (some ⟨g, 0, none⟩) m n) (by simp [Act.eval, Act.put]; omega) (by simp [Act.eval, Act.put]) hc ?_)
      go_wp2
      go_roundg (n - (m + k))
      case measure => omega
      case rel => exact ⟨m + k, by omega, by simp [s3], ⟨hnew⟩, ⟨hbn⟩⟩
    · have cb : decide ((m : Int) < (n : Int)) = false := decide_eq_false (by omega)
      have e : m = n := by omega
      subst e
      go_wp2
      go_ret
      refine ⟨.slice (some ⟨g, 0, none⟩) m m, rfl, ⟨fun _ _ => trivial, List.replicate m (.int .i64 (-1)), ⟨?q1, .inr ⟨g, m, wn m m, ?q2, hg, HH.out, ?q3, ?q4, ?q5, ?q6⟩⟩, ?q7⟩, HB.out⟩
      case q1 => rw [List.length_replicate, List.length_replicate]; exact (Nat.mul_one m).symm
      case q2 => rw [List.length_replicate]
      case q3 => rw [List.length_replicate]; exact Nat.le_refl _
      case q4 => exact Nat.le_trans (show m ≤ 16 by omega) (by decide)
      case q5 => rw [wn_size (Nat.le_refl _)]; exact (Nat.mul_one m).symm
      case q6 =>
        show List.take (_ * 1) _ = _
        rw [List.length_replicate, Nat.mul_one]
        simp [wn]
      case q7 => exact reps_rep _ _ _ m
end Go.Proofs.YtobboonnfocalaaGreatDoor.PG1
