/- The owners of the chunks of a machine, as the program computes them. Conditions: none. -/
import Derived.Test.YtobboonnfocalaaGreatDoorPG1x3
import Derived.Test.YtobboonnfocalaaGreatDoorPG1x6
import Derived.Test.YtobboonnfocalaaGreatDoorOwnAG1
import Derived.Test.YtobboonnfocalaaGreatDoorRepNG1
import Derived.Test.YtobboonnfocalaaGreatDoorSlWarpG1
import Derived.Test.YtobboonnfocalaaGreatDoorIsHeapG1
import Derived.Test.YtobboonnfocalaaGreatDoorLowG1
set_option linter.unusedVariables false
set_option linter.unusedSimpArgs false
namespace Go.Proofs.YtobboonnfocalaaGreatDoor.PG1
open Go.RowKit Go.Proofs.YtobboonnfocalaaGreatDoor.Sl Go.Proofs.YtobboonnfocalaaGreatDoorW.PrintWords Go.Proofs.YtobboonnfocalaaGreatDoorW.PrintLast Go.Proofs.YtobboonnfocalaaGreatDoorW.PrintMore

/-- What the program reads in a word. -/
def ctlT (x : Int) : Int × Int × Int × Int × Bool := (impl_CtlRead.f 2 x).getD (0, 0, 0, 0, false)
theorem ctlT_spec (x : Int) : impl_CtlRead.f 2 x = some ((ctlT x).1, (ctlT x).2.1, (ctlT x).2.2.1, (ctlT x).2.2.2.1, (ctlT x).2.2.2.2) := by
  obtain ⟨r1, r2, r3, r4, r5, h⟩ := ctlRead_tells x
  unfold ctlT
  rw [h]
  rfl
def isW (n : Int) (x : S49) : Option Bool := impl_isWarp.f 60 x.f0 x.f1 x.f2 x.f3 x.f4 x.f5 x.f6 x.f7 n
/-- The chunks of the large blocks. -/
def headsL (n : Int) (words : List Int) : List Int → Nat → List Int → Option (Bool × List Int)
  | [], _, l => some (true, l)
  | x :: r, c, l =>
    if (ctlT x).1 = 2 then
      (if 1 ≤ (ctlT x).2.2.2.1 ∧ (ctlT x).2.2.2.1 ≤ 100 then
        (if (ownL n words ((ctlT x).2.2.2.1 - 1).toNat l ((c : Int) + 1) ((c : Int) + 1 + ((ctlT x).2.2.2.1 - 1)) (-2)).1 = true then
          headsL n words r (c + 1) ((ownL n words ((ctlT x).2.2.2.1 - 1).toNat l ((c : Int) + 1) ((c : Int) + 1 + ((ctlT x).2.2.2.1 - 1)) (-2)).2.set c (-2))
        else some (false, []))
      else none)
    else headsL n words r (c + 1) l
/-- The chunks that the warps hold. -/
def warpsL (n : Int) (words : List Int) : List S49 → Nat → List Int → Option (Bool × List Int)
  | [], _, l => some (true, l)
  | x :: r, i, l =>
    if (0 ≤ x.f5 ∧ x.f5 ≤ 100) ∧ (0 ≤ x.f6 ∧ x.f6 ≤ 100) then
      (if (ownL n words x.f6.toNat l x.f5 (x.f5 + x.f6) i).1 = true then warpsL n words r (i + 1) (ownL n words x.f6.toNat l x.f5 (x.f5 + x.f6) i).2 else some (false, []))
    else none
/-- Is no held chunk without an owner? -/
def freeL : List Int → Nat → List Int → Bool
  | [], _, _ => true
  | x :: r, c, l => if x = 3145728 then (if rd l c = -1 then false else freeL r (c + 1) l) else freeL r (c + 1) l
/-- The answer, by whether it stands. -/
def endL : Bool → List Int → List Int × Bool
  | true, l => (l, true)
  | false, _ => ([], false)
def ownersM (words : List Int) (warps : List S49) : Option (List Int × Bool) :=
  (headsL words.length words words 0 (List.replicate words.length (-1))).bind fun o => if o.1 = true then ((warpsL words.length words warps 0 o.2).bind fun o2 => if o2.1 = true then some (endL (freeL words 0 o2.2) o2.2) else some ([], false)) else some ([], false)
/-! ### impl_owners: function 20 -/
def impl_owners.f (l0_0 : List Int) (l0_1 : List S49) : Option (List Int × Bool) :=
  if heapOk l0_0 = true then
    (if 1 ≤ l0_1.length ∧ l0_1.length ≤ 4 then
      (if (l0_1.all fun x => (isW l0_0.length x).isSome) = true then
        (if (l0_1.any fun x => !((isW l0_0.length x).getD false)) = true then some ([], false) else ownersM l0_0 l0_1)
      else none)
    else some ([], false))
  else some ([], false)
theorem ownL_length (n : Int) (words : List Int) (who stop : Int) : ∀ (d : Nat) (l : List Int) (c : Int), (ownL n words d l c stop who).2.length = l.length
  | 0, _, _ => rfl
  | d + 1, l, c => by
    unfold ownL
    (repeat' split) <;> first | rfl | (rw [ownL_length n words who stop d]; simp)
theorem heap16 {l : List Int} (h : heapOk l = true) : l.length ≤ 16 := by
  unfold heapOk at h
  simp only [Bool.and_eq_true, decide_eq_true_eq] at h
  exact h.1
/-- The predicate of the warps, run. -/
theorem isWarp_pred (n : Int) (warps : List S49) (hall : (warps.all fun x => (isW n x).isSome) = true) (gn : Nat) (w : World) (hT : GT w) (hn : w.heap[gn]? = some (.cells #[.int .i64 n] 3 (0, 0))) :
    PredW Tryz.prog 43 #[.pointer (some ⟨gn, 0, none⟩)] (fun x => !((isW n x).getD false)) warps w := by
  intro x hx W hW A1 c1 A2 c2 h1 hC1 h2 hC2
  have hs := List.all_eq_true.1 hall x hx
  obtain ⟨b, hb⟩ := Option.isSome_iff_exists.1 hs
  have hbf := hb
  unfold isW at hb
  show Calls _ _ _ _ (fun e w' => e = .returned (.bool (!((isW n x).getD false))) ∧ Below W.heap.size W w')
  rw [hbf, Option.getD_some]
  change Calls Tryz.prog _ #[.agg #[.int .i64 x.f0, .slice A1 x.f1.length c1, .slice A2 x.f2.length c2, .int .u32 x.f3, .int .i64 x.f4, .int .i64 x.f5, .int .i64 x.f6, .int .u32 x.f7], .pointer (some ⟨gn, 0, none⟩)] W _
  have BN := Aside0.mk (blk_below hn hW)
  have C1 : ∀ W', Below W.heap.size W W' → Calls Tryz.prog 44 #[.agg #[.int .i64 x.f0, .slice A1 x.f1.length c1, .slice A2 x.f2.length c2, .int .u32 x.f3, .int .i64 x.f4, .int .i64 x.f5, .int .i64 x.f6, .int .u32 x.f7], .int .i64 n] W' fun e w' => e = .returned (.bool b) ∧ Below W'.heap.size W' w' :=
    fun W' hW' => impl_isWarp.calls 60 x.f0 A1 c1 x.f1 A2 c2 x.f2 x.f3 x.f4 x.f5 x.f6 x.f7 n b W' (Kd.C_below hC1 hW') h1 (Kd.C_below hC2 hW') h2 hb ((hT.below hW).below hW')
  have hu := Tryz.underlying49
  clear hC1 hC2 hs hb hbf hall hx hn hT h1 h2
  generalize x.f1.length = n1 at C1 ⊢
  generalize x.f2.length = n2 at C1 ⊢
  have hB1 : Below W.heap.size W (W.alloc (.cells #[.int .i64 x.f0, .slice A1 n1 c1, .slice A2 n2 c2, .int .u32 x.f3, .int .i64 x.f4, .int .i64 x.f5, .int .i64 x.f6, .int .u32 x.f7] 49)) := (Below.refl _ _).alloc (Nat.le_refl _) _
  have z1 : (W.alloc (.cells #[.int .i64 x.f0, .slice A1 n1 c1, .slice A2 n2 c2, .int .u32 x.f3, .int .i64 x.f4, .int .i64 x.f5, .int .i64 x.f6, .int .u32 x.f7] 49)).cell? ⟨gn, 0, none⟩ = some (.int .i64 n) := (blk_cell (blk_below BN.out hB1) 0).trans rfl
  go_enter Tryz.func43, Tryz.ntmps43
  go_wp2_with (go_at_call 44; refine (C1 _ hB1).mono ?_; rintro e w' ⟨rfl, hb'⟩)
  go_ret
  exact ⟨rfl, below_then hB1 hB1.size hb'⟩

set_option maxHeartbeats 4000000 in
set_option maxRecDepth 100000 in
theorem impl_owners.calls (A0_0 : Option Addr) (c0_0 : Nat) (l0_0 : List Int) (A0_1 : Option Addr) (c0_1 : Nat) (l0_1 : List S49) (r1 : List Int) (r2 : Bool) (w : World) (hr0_0 : Kd.C (Kd.int .u32) w A0_0 l0_0.length l0_0) (hc0_0 : l0_0.length ≤ c0_0) (hr0_1 : Kd.C k49 w A0_1 l0_1.length l0_1) (hc0_1 : l0_1.length ≤ c0_1) (h : impl_owners.f l0_0 l0_1 = some (r1, r2)) (hT : GT w) :
    Calls Tryz.prog 20 #[.agg #[.slice A0_0 l0_0.length c0_0, .slice A0_1 l0_1.length c0_1]] w fun e w' => ∃ v0_ : Value, e = .returned (.tuple #[v0_, .bool r2]) ∧ Kd.R (Kd.int .i64) 3 w' w.heap.size (fun _ => True) v0_ r1 ∧ Below w.heap.size w w' := by
  have hu1 := Tryz.underlying37
  have hu2 := Tryz.underlying34
  have hnn : l0_0.length ≤ 9223372036854775807 := hr0_0.2.1
  have e1 : ∀ args w, (callFunc 43 args).run Tryz.prog w = .ok (.enter 43 args) w := enters_of Tryz.func43 (by kernel_rfl) rfl
  have C1 : ∀ W, Below w.heap.size w W → Calls Tryz.prog 41 #[.agg #[.slice A0_0 l0_0.length c0_0]] W fun e w' => e = .returned (.bool (heapOk l0_0)) ∧ Below W.heap.size W w' :=
    fun W hW => impl_isHeap.calls A0_0 c0_0 l0_0 _ W (Kd.C_below hr0_0 hW) hc0_0 rfl
  have C2 := fun W => within_any (l0_1.length : Int) 1 4 W
  have HR0 := Aside0.mk hr0_0
  have HR1 := Aside0.mk hr0_1
  have hB2 : Below w.heap.size w ((w.alloc (.cells #[.slice A0_0 l0_0.length c0_0, .slice A0_1 l0_1.length c0_1] 37)).alloc (.cells #[.int .i64 l0_0.length] 3)) := ((Below.refl _ _).alloc (Nat.le_refl _) _).alloc (by rw [World.size_alloc]; omega) _
  have hm2 : ((w.alloc (.cells #[.slice A0_0 l0_0.length c0_0, .slice A0_1 l0_1.length c0_1] 37)).alloc (.cells #[.int .i64 l0_0.length] 3)).heap[w.heap.size]? = some (.cells #[.slice A0_0 l0_0.length c0_0, .slice A0_1 l0_1.length c0_1] 37 (0, 0)) := blk_alloc (blk_new _ _) _
  have hn2 : ((w.alloc (.cells #[.slice A0_0 l0_0.length c0_0, .slice A0_1 l0_1.length c0_1] 37)).alloc (.cells #[.int .i64 l0_0.length] 3)).heap[w.heap.size + 1]? = some (.cells #[.int .i64 l0_0.length] 3 (0, 0)) := by
    have := blk_new (w.alloc (.cells #[.slice A0_0 l0_0.length c0_0, .slice A0_1 l0_1.length c0_1] 37)) (.cells #[.int .i64 l0_0.length] 3)
    rw [World.size_alloc] at this
    exact this
  clear hr0_0 hr0_1
  unfold impl_owners.f at h
  by_cases c1 : heapOk l0_0 = true
  · have h16 := heap16 c1
    rw [if_pos c1] at h
    rw [c1] at C1
    by_cases c2 : 1 ≤ l0_1.length ∧ l0_1.length ≤ 4
    · rw [if_pos c2] at h
      rw [decide_eq_true (show (1 : Int) ≤ (l0_1.length : Int) ∧ (l0_1.length : Int) ≤ 4 by omega)] at C2
      by_cases c3 : (l0_1.all fun x => (isW l0_0.length x).isSome) = true
      · rw [if_pos c3] at h
        have C3 : ∀ W, Below w.heap.size w W → W.heap[w.heap.size + 1]? = some (.cells #[.int .i64 l0_0.length] 3 (0, 0)) → Calls Tryz.prog 42 #[.slice A0_1 l0_1.length c0_1, .func (.func 43) #[] #[.pointer (some ⟨w.heap.size + 1, 0, none⟩)]] W fun e w' => e = .returned (.bool (l0_1.any fun x => !((isW l0_0.length x).getD false))) ∧ Below W.heap.size W w' :=
          fun W hW hn => ContainsFunc_warp _ _ _ e1 A0_1 c0_1 l0_1 W (Kd.C_below HR1.out hW) hc0_1 (isWarp_pred _ _ c3 _ W (hT.below hW) hn)
        by_cases c4 : (l0_1.any fun x => !((isW l0_0.length x).getD false)) = true
        · rw [if_pos c4] at h
          rw [c4] at C3
          obtain ⟨rfl, rfl⟩ := Prod.mk.inj (Option.some.inj h)
          clear h c1 c2 c3 c4 hT
          go_enter Tryz.func20, Tryz.ntmps20
          go_wp2_with (first | (go_at_call 41; refine (C1 _ hB2).mono ?_; rintro e w3 ⟨rfl, hb3⟩; have BM := Aside0.mk (blk_below hm2 hb3); have BN := Aside0.mk (blk_below hn2 hb3); have HB := Aside0.mk (below_then hB2 hB2.size hb3); clear hm2 hn2 hB2 hb3; have z1 : w3.cell? ⟨w.heap.size, 1, none⟩ = some (.slice A0_1 l0_1.length c0_1) := (blk_cell BM.out 1).trans rfl) | (go_at_call 21; refine (C2 _).mono ?_; rintro e w4 ⟨rfl, ⟨nd, rfl⟩⟩) | (go_at_call 42; refine (C3 _ (pw_below_drewN HB.out _) (blk_drewN BN.out _)).mono ?_; rintro e w5 ⟨rfl, hb5⟩))
          go_ret2
          exact ⟨_, rfl, Kd.R_nil _ _ _ _ _, below_then (pw_below_drewN HB.out _) (pw_below_drewN HB.out nd).size hb5⟩
        · rw [if_neg c4] at h
          rw [Bool.eq_false_iff.mpr c4] at C3
          have C4 := fun W => RepeatN l0_0.length h16 W
          have h4 : l0_1.length ≤ 4 := c2.2
          clear c1 c2 c3 c4 hT
          unfold ownersM at h
          have H := Aside0.mk h
          clear h
          go_enter Tryz.func20, Tryz.ntmps20
          go_upto_region 6 with (first | (go_at_call 41; refine (C1 _ hB2).mono ?_; rintro e w3 ⟨rfl, hb3⟩; have BM := Aside0.mk (blk_below hm2 hb3); have BN := Aside0.mk (blk_below hn2 hb3); have HB := Aside0.mk (below_then hB2 hB2.size hb3); clear hm2 hn2 hB2 hb3; have z1 : w3.cell? ⟨w.heap.size, 1, none⟩ = some (.slice A0_1 l0_1.length c0_1) := (blk_cell BM.out 1).trans rfl) | (go_at_call 21; refine (C2 _).mono ?_; rintro e w4 ⟨rfl, ⟨nd, rfl⟩⟩) | (go_at_call 42; refine (C3 _ (pw_below_drewN HB.out _) (blk_drewN BN.out _)).mono ?_; rintro e w5 ⟨rfl, hb5⟩; replace BM := Aside0.mk (blk_below (blk_drewN BM.out nd) hb5); replace BN := Aside0.mk (blk_below (blk_drewN BN.out nd) hb5); replace HB := Aside0.mk (below_then (pw_below_drewN HB.out nd) (pw_below_drewN HB.out nd).size hb5); clear hb5 z1; have z3 : (w5.alloc (.cells #[.int .i64 (-1)] 3)).cell? ⟨w.heap.size + 1, 0, none⟩ = some (.int .i64 l0_0.length) := (blk_cell (blk_alloc BN.out _) 0).trans rfl) | (go_at_call 22; refine (C4 _ w5.heap.size 3 (blk_new _ _)).mono ?_; rintro e w6 ⟨v6, rfl, hv6, hb6⟩; obtain ⟨Ar, nc, rfl⟩ := Kd.R_slice hv6))
          clear C1 C2 C3 C4 z3
          have hs5 : w.heap.size + 1 < w5.heap.size := blk_lt BN.out
          have hs6 := hb6.size
          rw [World.size_alloc] at hs6
          replace BM := Aside0.mk (blk_alloc (blk_below (blk_alloc BM.out (.cells #[.int .i64 (-1)] 3)) hb6) (.cells #[.slice Ar (List.replicate l0_0.length (-1 : Int)).length nc] 29))
          replace BN := Aside0.mk (blk_alloc (blk_below (blk_alloc BN.out (.cells #[.int .i64 (-1)] 3)) hb6) (.cells #[.slice Ar (List.replicate l0_0.length (-1 : Int)).length nc] 29))
          have BL := Aside0.mk (blk_new w6 (.cells #[.slice Ar (List.replicate l0_0.length (-1 : Int)).length nc] 29))
          have hB5 := HB.out.alloc HB.out.size (.cells #[.int .i64 (-1)] 3)
          have hB6 := below_then hB5 hB5.size hb6
          replace HB := Aside0.mk (hB6.alloc hB6.size (.cells #[.slice Ar (List.replicate l0_0.length (-1 : Int)).length nc] 29))
          have HO := Aside0.mk (Kd.R_alloc (Kd.R_lower (Kd.R_mono (ok' := fun k => k ≠ w.heap.size + 1 ∧ k ≠ w6.heap.size ∧ k ≠ w.heap.size) (Kd.R_bound hv6) (fun k hk => by have h1 := hk.2.1; have h2 := hk.2.2.1; rw [World.size_alloc] at h1; omega)) (show w.heap.size ≤ _ by rw [World.size_alloc]; omega)) (.cells #[.slice Ar (List.replicate l0_0.length (-1 : Int)).length nc] 29))
          clear hv6 hb6 hB5 hB6
          rw [List.length_replicate] at BM BN BL HB HO
          have hgl : w.heap.size ≤ w6.heap.size := by omega
          generalize w6.alloc (.cells #[.slice Ar l0_0.length nc] 29) = w7 at BM BN BL HB HO ⊢
          generalize w6.heap.size = gl at BM BN BL HB HO hgl ⊢
          clear hs6 hs5
          have hE : (List.replicate l0_0.length (-1 : Int)).length = l0_0.length := List.length_replicate
          generalize List.replicate l0_0.length (-1 : Int) = L0 at H HO BL hE ⊢
          have z0 : w7.cell? ⟨w.heap.size, 0, none⟩ = some (.slice A0_0 l0_0.length c0_0) := (blk_cell BM.out 0).trans rfl
          go_wp2
          go_loopg [44] l0_0.length (fun gg v44 wr => ∃ (c : Nat) (l : List Int), v44 = .int .i64 c ∧ (c ≤ l0_0.length ∧ l0_0.length - c ≤ gg) ∧ l.length = l0_0.length ∧ Aside0 (((headsL l0_0.length l0_0 (l0_0.drop c) c l).bind fun o => if o.1 = true then ((warpsL l0_0.length l0_0 l0_1 0 o.2).bind fun o2 => if o2.1 = true then some (endL (freeL l0_0 0 o2.2) o2.2) else some ([], false)) else some ([], false)) = some (r1, r2)) ∧ Aside0 (Kd.R (Kd.int .i64) 3 wr w.heap.size (fun k => k ≠ w.heap.size + 1 ∧ k ≠ gl ∧ k ≠ w.heap.size) (.slice Ar l0_0.length nc) l) ∧ Aside0 (wr.heap[w.heap.size + 1]? = some (.cells #[.int .i64 l0_0.length] 3 (0, 0))) ∧ Aside0 (wr.heap[gl]? = some (.cells #[.slice Ar l0_0.length nc] 29 (0, 0))) ∧ Aside0 (wr.heap[w.heap.size]? = some (.cells #[.slice A0_0 l0_0.length c0_0, .slice A0_1 l0_1.length c0_1] 37 (0, 0))) ∧ Aside0 (Below w.heap.size w wr))
          case atStart => exact ⟨0, L0, rfl, by omega, hE, H, HO, BN, BL, BM, HB⟩
          case round =>
            clear H hE z0
            obtain ⟨c, l, rfl, hc, hll, H, HO, BN, BL, BM, HB⟩ := hrel
            by_cases d1 : c < l0_0.length
            · have d1b : decide ((c : Int) < (l0_0.length : Int)) = true := decide_eq_true (by omega)
              have p1 : 0 ≤ (c : Int) := by omega
              have q1 : (c : Int) < (l0_0.length : Int) := by omega
              obtain ⟨ad, ead, hx⟩ := Kd.at_int (Kd.C_below HR0.out HB.out) (c : Int) p1 q1
              cases ead
              replace p1 := eq_true p1
              replace q1 := eq_true q1
              have hd : l0_0.drop c = rd l0_0 (c : Int) :: l0_0.drop (c + 1) := by
                rw [List.drop_eq_getElem_cons d1]
                congr 1
                simp [rd, List.getD_eq_getElem?_getD, d1]
              rw [hd] at H
              clear hd
              generalize rd l0_0 (c : Int) = x at H hx
              simp only [Int.toNat_natCast] at hx
              have HC := fun W => impl_CtlRead.calls 2 x _ _ _ _ _ W (ctlT_spec x)
              have h0 := H.out
              simp only [headsL] at h0
              have s1 : IntKind.i64.wrap ((c : Int) + 1) = (c : Int) + 1 := (i64_w _).trans (by unfold wrap64; omega)
              by_cases d2 : (ctlT x).1 = 2
              · rw [if_pos d2] at h0
                have d2b : ((ctlT x).1 == 2) = true := beq_iff_eq.mpr d2
                by_cases d3 : 1 ≤ (ctlT x).2.2.2.1 ∧ (ctlT x).2.2.2.1 ≤ 100
                · rw [if_pos d3] at h0
                  generalize (ctlT x).2.2.2.1 = run at h0 HC d3
                  generalize ctlT x = T at h0 HC d2 d2b
                  have s2 : IntKind.i64.wrap (run - 1) = run - 1 := (i64_w _).trans (by unfold wrap64; omega)
                  rcases hbl : ownL l0_0.length l0_0 (run - 1).toNat l ((c : Int) + 1) ((c : Int) + 1 + (run - 1)) (-2) with ⟨b, l2⟩
                  have hl2 : l2.length = l.length := by have := ownL_length l0_0.length l0_0 (-2) ((c : Int) + 1 + (run - 1)) (run - 1).toNat l ((c : Int) + 1); rw [hbl] at this; exact this
                  rw [hbl] at h0
                  clear H
                  have hOwn : ∀ W, Below w.heap.size w W → W.heap[w.heap.size + 1]? = some (.cells #[.int .i64 l0_0.length] 3 (0, 0)) → W.heap[gl]? = some (.cells #[.slice Ar l0_0.length nc] 29 (0, 0)) → W.heap[w.heap.size]? = some (.cells #[.slice (some ad) l0_0.length c0_0, .slice A0_1 l0_1.length c0_1] 37 (0, 0)) → Kd.R (Kd.int .i64) 3 W w.heap.size (fun k => k ≠ w.heap.size + 1 ∧ k ≠ gl ∧ k ≠ w.heap.size) (.slice Ar l0_0.length nc) l →
                      Calls Tryz.prog 45 #[.int .i64 ((c : Int) + 1), .int .i64 (run - 1), .int .i64 (-2), .pointer (some ⟨w.heap.size + 1, 0, none⟩), .pointer (some ⟨gl, 0, none⟩), .pointer (some ⟨w.heap.size, 0, none⟩)] W fun e w' => e = .returned (.bool b) ∧ Kd.R (Kd.int .i64) 3 w' w.heap.size (fun k => (k ≠ w.heap.size + 1 ∧ k ≠ gl ∧ k ≠ w.heap.size) ∨ W.heap.size ≤ k) (.slice Ar l0_0.length nc) l2 ∧ Below w.heap.size w w' ∧ Kept W w' (fun k => k ≠ w.heap.size + 1 ∧ k ≠ gl ∧ k ≠ w.heap.size) := by
                    intro W k1 k2 k3 k4 k5
                    rw [← hll] at k2 k3 k5 hbl ⊢
                    exact own_ l0_0 l _ _ _ _ _ _ nc 0 c0_0 l0_1.length c0_1 Ar (some ad) A0_1 w W _ b l2 k1 k2 k3 k4 k5 HR0.out hll.symm (by omega) (by omega) (by omega) (fun k hk => hk) hbl
                  clear hbl
                  cases b
                  · have h1 : ([], false) = (r1, r2) := by simpa using h0
                    obtain ⟨rfl, rfl⟩ := Prod.mk.inj h1
                    clear h0 h1
                    go_wp2_with (first | (go_at_call 47; refine (HC _).mono ?_; rintro e w8 ⟨rfl, hb8⟩; replace BM := Aside0.mk (blk_below BM.out hb8); replace BN := Aside0.mk (blk_below BN.out hb8); replace BL := Aside0.mk (blk_below BL.out hb8); replace HO := Aside0.mk (Kd.R_below HO.out hb8); replace HB := Aside0.mk (below_then HB.out HB.out.size hb8); clear hb8) | (go_at_call 45; refine (hOwn _ (HB.out.alloc HB.out.size _) (blk_alloc BN.out _) (blk_alloc BL.out _) (blk_alloc BM.out _) (Kd.R_alloc HO.out _)).mono ?_; rintro e w9 ⟨rfl, hy, hB9, hk9⟩))
                    go_ret2
                    exact ⟨_, rfl, Kd.R_nil _ _ _ _ _, hB9⟩
                  · have h1 := Aside0.mk h0
                    clear h0
                    go_upto_region 13 with (first | (go_at_call 47; refine (HC _).mono ?_; rintro e w8 ⟨rfl, hb8⟩; replace BM := Aside0.mk (blk_below BM.out hb8); replace BN := Aside0.mk (blk_below BN.out hb8); replace BL := Aside0.mk (blk_below BL.out hb8); replace HO := Aside0.mk (Kd.R_below HO.out hb8); replace HB := Aside0.mk (below_then HB.out HB.out.size hb8); clear hb8) | (go_at_call 45; refine (hOwn _ (HB.out.alloc HB.out.size _) (blk_alloc BN.out _) (blk_alloc BL.out _) (blk_alloc BM.out _) (Kd.R_alloc HO.out _)).mono ?_; rintro e w9 ⟨rfl, hy, hB9, hk9⟩; have BN9 := Aside0.mk (blk_kept (blk_alloc BN.out _) hk9 (fun h => h.1 rfl)); have BL9 := Aside0.mk (blk_kept (blk_alloc BL.out _) hk9 (fun h => h.2.1 rfl)); have BM9 := Aside0.mk (blk_kept (blk_alloc BM.out _) hk9 (fun h => h.2.2 rfl)); have HO9 := Aside0.mk (Kd.R_reok (ok := fun k => k ≠ w.heap.size + 1 ∧ k ≠ gl ∧ k ≠ w.heap.size) rfl hy (fun k e => HO.out.1 k e)); have HB9 := Aside0.mk hB9; clear hy hk9 hB9))
                    have hlen2 : l2.length = l0_0.length := by omega
                    rw [← hlen2] at HO9
                    obtain ⟨go, co, eo, gb, gL, cL, HG⟩ := Kd.R_form HO9.out (by omega)
                    rw [← hlen2] at BL9
                    cases eo
                    have GB := Aside0.mk gb
                    obtain ⟨hx2, hf2⟩ := Kd.R_celln 0 HO9.out (c : Int) (by omega) (by omega)
                    have HP := Kd.R_putg HO9.out (c : Int) (-2)
                    have hne : go ≠ w.heap.size + 1 ∧ go ≠ gl ∧ go ≠ w.heap.size := HO9.out.1 go rfl
                    have y1 : w9.cell? ⟨gl, 0, none⟩ = some (.slice (some ⟨go, 0, none⟩) l2.length nc) := (blk_cell BL9.out 0).trans rfl
                    have hg := HP.2
                    have HO3 := Aside0.mk HP.1
                    have HB3 : Aside0 (Below w.heap.size w (w9.setCell ⟨go, (c : Int).toNat, none⟩ (.int .i64 (-2)))) := ⟨below_set HB9.out GB.out⟩
                    clear HP gb
                    have P1 : (0 ≤ (c : Int)) = True := eq_true (by omega)
                    have Q1 : ((c : Int) < (l2.length : Int)) = True := eq_true (by omega)
                    simp only [Int.toNat_natCast] at hx2 hf2 hg HO3 HB3
                    go_wp2
                    go_roundg (l0_0.length - (c + 1))
                    case measure => omega
                    case rel =>
                      rw [hlen2] at HO3 BL9
                      refine ⟨c + 1, l2.set c (-2), ?_, by omega, by simp [List.length_set, hlen2], h1, HO3, ⟨blk_grown BN9.out hg (by simpa using fun e => hne.1 e.symm)⟩, ⟨blk_grown BL9.out hg (by simpa using fun e => hne.2.1 e.symm)⟩, ⟨blk_grown BM9.out hg (by simpa using fun e => hne.2.2 e.symm)⟩, HB3⟩
                      simp [s1]
                · rw [if_neg d3] at h0
                  cases h0
              · rw [if_neg d2] at h0
                have d2b : ((ctlT x).1 == 2) = false := beq_eq_false_iff_ne.mpr d2
                generalize ctlT x = T at h0 HC d2 d2b
                have h1 := Aside0.mk h0
                clear h0 H
                go_wp2_with (first | (go_at_call 47; refine (HC _).mono ?_; rintro e w8 ⟨rfl, hb8⟩))
                go_roundg (l0_0.length - (c + 1))
                case measure => omega
                case rel => exact ⟨c + 1, l, by simp [s1], by omega, hll, h1, ⟨Kd.R_alloc (Kd.R_below HO.out hb8) _⟩, ⟨blk_alloc (blk_below BN.out hb8) _⟩, ⟨blk_alloc (blk_below BL.out hb8) _⟩, ⟨blk_alloc (blk_below BM.out hb8) _⟩, ⟨(below_then HB.out HB.out.size hb8).alloc (below_then HB.out HB.out.size hb8).size _⟩⟩
            · have d1b : decide ((c : Int) < (l0_0.length : Int)) = false := decide_eq_false (by omega)
              have h0 := H.out
              rw [List.drop_eq_nil_of_le (by omega)] at h0
              simp only [headsL, Option.bind_some, if_true] at h0
              have H1 := Aside0.mk h0
              clear H h0
              have z1 : wr.cell? ⟨w.heap.size, 1, none⟩ = some (.slice A0_1 l0_1.length c0_1) := (blk_cell BM.out 1).trans rfl
              go_wp2
              go_loopg [72] l0_1.length (fun gg v72 wr => ∃ (c : Nat) (l : List Int), v72 = .int .i64 c ∧ (c ≤ l0_1.length ∧ l0_1.length - c ≤ gg) ∧ l.length = l0_0.length ∧ Aside0 (((warpsL l0_0.length l0_0 (l0_1.drop c) c l).bind fun o2 => if o2.1 = true then some (endL (freeL l0_0 0 o2.2) o2.2) else some ([], false)) = some (r1, r2)) ∧ Aside0 (Kd.R (Kd.int .i64) 3 wr w.heap.size (fun k => k ≠ w.heap.size + 1 ∧ k ≠ gl ∧ k ≠ w.heap.size) (.slice Ar l0_0.length nc) l) ∧ Aside0 (wr.heap[w.heap.size + 1]? = some (.cells #[.int .i64 l0_0.length] 3 (0, 0))) ∧ Aside0 (wr.heap[gl]? = some (.cells #[.slice Ar l0_0.length nc] 29 (0, 0))) ∧ Aside0 (wr.heap[w.heap.size]? = some (.cells #[.slice A0_0 l0_0.length c0_0, .slice A0_1 l0_1.length c0_1] 37 (0, 0))) ∧ Aside0 (Below w.heap.size w wr))
              case atStart => exact ⟨0, l, rfl, by omega, hll, H1, HO, BN, BL, BM, HB⟩
              case round =>
                clear z1 d1 d1b hc hll H1
                obtain ⟨c, l, rfl, hc, hll, H, HO, BN, BL, BM, HB⟩ := hrel
                by_cases d1 : c < l0_1.length
                · have d1b : decide ((c : Int) < (l0_1.length : Int)) = true := decide_eq_true (by omega)
                  obtain ⟨ad, A1, c1, A2, c2, ead, hx0, hx1, hx2, hx3, hx4, hx5, hx6, hx7, hl1, hi1, hl2, hi2⟩ := at_T49 (Kd.C_below HR1.out HB.out) (c : Int) (by omega) (by omega)
                  cases ead
                  have p1 : (0 ≤ (c : Int)) = True := eq_true (by omega)
                  have q1 : ((c : Int) < (l0_1.length : Int)) = True := eq_true (by omega)
                  have hd : l0_1.drop c = rd_T49 l0_1 (c : Int) :: l0_1.drop (c + 1) := by
                    rw [List.drop_eq_getElem_cons d1]
                    congr 1
                    simp [rd_T49, List.getD_eq_getElem?_getD, d1]
                  rw [hd] at H
                  clear hd hl1 hi1 hl2 hi2
                  generalize rd_T49 l0_1 (c : Int) = x at H hx0 hx1 hx2 hx3 hx4 hx5 hx6 hx7
                  simp only [Int.toNat_natCast] at hx0 hx1 hx2 hx3 hx4 hx5 hx6 hx7
                  have h0 := H.out
                  simp only [warpsL] at h0
                  by_cases d3 : (0 ≤ x.f5 ∧ x.f5 ≤ 100) ∧ (0 ≤ x.f6 ∧ x.f6 ≤ 100)
                  · rw [if_pos d3] at h0
                    have s1 : IntKind.i64.wrap ((c : Int) + 1) = (c : Int) + 1 := (i64_w _).trans (by unfold wrap64; omega)
                    rcases hbl : ownL l0_0.length l0_0 x.f6.toNat l x.f5 (x.f5 + x.f6) c with ⟨b, l2⟩
                    have hl2 : l2.length = l.length := by have := ownL_length l0_0.length l0_0 c (x.f5 + x.f6) x.f6.toNat l x.f5; rw [hbl] at this; exact this
                    rw [hbl] at h0
                    clear H
                    have hOwn : ∀ W, Below w.heap.size w W → W.heap[w.heap.size + 1]? = some (.cells #[.int .i64 l0_0.length] 3 (0, 0)) → W.heap[gl]? = some (.cells #[.slice Ar l0_0.length nc] 29 (0, 0)) → W.heap[w.heap.size]? = some (.cells #[.slice A0_0 l0_0.length c0_0, .slice (some ad) l0_1.length c0_1] 37 (0, 0)) → Kd.R (Kd.int .i64) 3 W w.heap.size (fun k => k ≠ w.heap.size + 1 ∧ k ≠ gl ∧ k ≠ w.heap.size) (.slice Ar l0_0.length nc) l →
                        Calls Tryz.prog 45 #[.int .i64 x.f5, .int .i64 x.f6, .int .i64 c, .pointer (some ⟨w.heap.size + 1, 0, none⟩), .pointer (some ⟨gl, 0, none⟩), .pointer (some ⟨w.heap.size, 0, none⟩)] W fun e w' => e = .returned (.bool b) ∧ Kd.R (Kd.int .i64) 3 w' w.heap.size (fun k => (k ≠ w.heap.size + 1 ∧ k ≠ gl ∧ k ≠ w.heap.size) ∨ W.heap.size ≤ k) (.slice Ar l0_0.length nc) l2 ∧ Below w.heap.size w w' ∧ Kept W w' (fun k => k ≠ w.heap.size + 1 ∧ k ≠ gl ∧ k ≠ w.heap.size) := by
                      intro W k1 k2 k3 k4 k5
                      rw [← hll] at k2 k3 k5 hbl ⊢
                      exact own_ l0_0 l _ _ _ _ _ _ nc 0 c0_0 l0_1.length c0_1 Ar A0_0 (some ad) w W _ b l2 k1 k2 k3 k4 k5 HR0.out hll.symm (by omega) (by omega) (by omega) (fun k hk => hk) hbl
                    clear hbl
                    cases b
                    · have h1 : ([], false) = (r1, r2) := by simpa using h0
                      obtain ⟨rfl, rfl⟩ := Prod.mk.inj h1
                      clear h0 h1
                      go_wp2_with (first | (go_at_call 45; refine (hOwn _ (HB.out.alloc HB.out.size _) (blk_alloc BN.out _) (blk_alloc BL.out _) (blk_alloc BM.out _) (Kd.R_alloc HO.out _)).mono ?_; rintro e w9 ⟨rfl, hy, hB9, hk9⟩))
                      go_ret2
                      exact ⟨_, rfl, Kd.R_nil _ _ _ _ _, hB9⟩
                    · have h1 := Aside0.mk h0
                      clear h0
                      go_wp2_with (first | (go_at_call 45; refine (hOwn _ (HB.out.alloc HB.out.size _) (blk_alloc BN.out _) (blk_alloc BL.out _) (blk_alloc BM.out _) (Kd.R_alloc HO.out _)).mono ?_; rintro e w9 ⟨rfl, hy, hB9, hk9⟩; have BN9 := Aside0.mk (blk_kept (blk_alloc BN.out _) hk9 (fun h => h.1 rfl)); have BL9 := Aside0.mk (blk_kept (blk_alloc BL.out _) hk9 (fun h => h.2.1 rfl)); have BM9 := Aside0.mk (blk_kept (blk_alloc BM.out _) hk9 (fun h => h.2.2 rfl)); have HO9 := Aside0.mk (Kd.R_reok (ok := fun k => k ≠ w.heap.size + 1 ∧ k ≠ gl ∧ k ≠ w.heap.size) rfl hy (fun k e => HO.out.1 k e)); have HB9 := Aside0.mk hB9; clear hy hk9 hB9))
                      go_roundg (l0_1.length - (c + 1))
                      case measure => omega
                      case rel => exact ⟨c + 1, l2, by simp [s1], by omega, by omega, h1, HO9, BN9, BL9, BM9, HB9⟩
                  · rw [if_neg d3] at h0
                    cases h0
                · have d1b : decide ((c : Int) < (l0_1.length : Int)) = false := decide_eq_false (by omega)
                  have h0 := H.out
                  rw [List.drop_eq_nil_of_le (by omega)] at h0
                  simp only [warpsL, Option.bind_some, if_true] at h0
                  have H1 := Aside0.mk h0
                  clear H h0
                  have z0 : wr.cell? ⟨w.heap.size, 0, none⟩ = some (.slice A0_0 l0_0.length c0_0) := (blk_cell BM.out 0).trans rfl
                  go_wp2
                  go_loopg [90] l0_0.length (fun gg v90 wr => ∃ (c : Nat), v90 = .int .i64 c ∧ (c ≤ l0_0.length ∧ l0_0.length - c ≤ gg) ∧ Aside0 (some (endL (freeL (l0_0.drop c) c l) l) = some (r1, r2)) ∧ Aside0 (Kd.R (Kd.int .i64) 3 wr w.heap.size (fun k => k ≠ w.heap.size + 1 ∧ k ≠ gl ∧ k ≠ w.heap.size) (.slice Ar l0_0.length nc) l) ∧ Aside0 (wr.heap[gl]? = some (.cells #[.slice Ar l0_0.length nc] 29 (0, 0))) ∧ Aside0 (Below w.heap.size w wr))
                  case atStart => exact ⟨0, rfl, by omega, H1, HO, BL, HB⟩
                  case round =>
                    clear z0 d1 d1b hc H1
                    obtain ⟨c, rfl, hc, H, HO, BL, HB⟩ := hrel
                    by_cases d1 : c < l0_0.length
                    · have d1b : decide ((c : Int) < (l0_0.length : Int)) = true := decide_eq_true (by omega)
                      have p1 : 0 ≤ (c : Int) := by omega
                      have q1 : (c : Int) < (l0_0.length : Int) := by omega
                      obtain ⟨ad, ead, hx⟩ := Kd.at_int (Kd.C_below HR0.out HB.out) (c : Int) p1 q1
                      cases ead
                      obtain ⟨go, co, eo, gb, gL, cL, HG⟩ := Kd.R_form HO.out (by omega)
                      rw [hll] at eo
                      cases eo
                      obtain ⟨hy, hf⟩ := Kd.R_celln 0 HO.out (c : Int) p1 q1
                      have hy' : wr.cell? ⟨go, c, none⟩ = some (.int .i64 (rd l (c : Int))) := hy
                      have y1 : wr.cell? ⟨gl, 0, none⟩ = some (.slice (some ⟨go, 0, none⟩) l0_0.length nc) := (blk_cell BL.out 0).trans rfl
                      clear hy hf gb gL cL HG
                      replace p1 := eq_true p1
                      replace q1 := eq_true q1
                      have s1 : IntKind.i64.wrap ((c : Int) + 1) = (c : Int) + 1 := (i64_w _).trans (by unfold wrap64; omega)
                      have hd : l0_0.drop c = rd l0_0 (c : Int) :: l0_0.drop (c + 1) := by
                        rw [List.drop_eq_getElem_cons d1]
                        congr 1
                        simp [rd, List.getD_eq_getElem?_getD, d1]
                      rw [hd] at H
                      clear hd
                      generalize rd l0_0 (c : Int) = x at H hx
                      simp only [Int.toNat_natCast] at hx
                      have h0 := H.out
                      simp only [freeL] at h0
                      clear H
                      have CH : ∀ W, Calls Tryz.prog 46 #[] W fun e w' => e = .returned (.int .u32 3145728) ∧ Below W.heap.size W w' := fun W => impl_HeldWord.calls _ W held_word
                      by_cases d2 : x = 3145728
                      · rw [if_pos d2] at h0
                        have d2b : (x == 3145728) = true := beq_iff_eq.mpr d2
                        by_cases d3 : rd l (c : Int) = -1
                        · rw [if_pos d3] at h0
                          have d3b : (rd l (c : Int) == -1) = true := beq_iff_eq.mpr d3
                          have h1 : ([], false) = (r1, r2) := Option.some.inj h0
                          obtain ⟨rfl, rfl⟩ := Prod.mk.inj h1
                          clear h0 h1
                          generalize rd l (c : Int) = u at hy' d3 d3b
                          go_wp2_with (first | (go_at_call 46; refine (CH _).mono ?_; rintro e w8 ⟨rfl, hb8⟩; have y2 := (hb8.cell (World.block_lt_of_cell? _ _ hy')).trans hy'; have y3 := (hb8.cell (World.block_lt_of_cell? _ _ y1)).trans y1))
                          go_ret2
                          exact ⟨_, rfl, Kd.R_nil _ _ _ _ _, below_then HB.out HB.out.size hb8⟩
                        · rw [if_neg d3] at h0
                          have d3b : (rd l (c : Int) == -1) = false := beq_eq_false_iff_ne.mpr d3
                          have h1 := Aside0.mk h0
                          clear h0
                          generalize rd l (c : Int) = u at hy' d3 d3b
                          go_wp2_with (first | (go_at_call 46; refine (CH _).mono ?_; rintro e w8 ⟨rfl, hb8⟩; have y2 := (hb8.cell (World.block_lt_of_cell? _ _ hy')).trans hy'; have y3 := (hb8.cell (World.block_lt_of_cell? _ _ y1)).trans y1))
                          go_roundg (l0_0.length - (c + 1))
                          case measure => omega
                          case rel => exact ⟨c + 1, by simp [s1], by omega, h1, ⟨Kd.R_below HO.out hb8⟩, ⟨blk_below BL.out hb8⟩, ⟨below_then HB.out HB.out.size hb8⟩⟩
                      · rw [if_neg d2] at h0
                        have d2b : (x == 3145728) = false := beq_eq_false_iff_ne.mpr d2
                        have h1 := Aside0.mk h0
                        clear h0 hy' y1
                        go_wp2_with (first | (go_at_call 46; refine (CH _).mono ?_; rintro e w8 ⟨rfl, hb8⟩))
                        go_roundg (l0_0.length - (c + 1))
                        case measure => omega
                        case rel => exact ⟨c + 1, by simp [s1], by omega, h1, ⟨Kd.R_below HO.out hb8⟩, ⟨blk_below BL.out hb8⟩, ⟨below_then HB.out HB.out.size hb8⟩⟩
                    · have d1b : decide ((c : Int) < (l0_0.length : Int)) = false := decide_eq_false (by omega)
                      have h0 := H.out
                      rw [List.drop_eq_nil_of_le (by omega)] at h0
                      simp only [freeL, endL] at h0
                      obtain ⟨rfl, rfl⟩ := Prod.mk.inj (Option.some.inj h0)
                      clear H h0
                      have y1 : wr.cell? ⟨gl, 0, none⟩ = some (.slice Ar l0_0.length nc) := (blk_cell BL.out 0).trans rfl
                      go_wp2
                      go_ret2
                      exact ⟨_, rfl, Kd.R_mono HO.out (fun _ _ => trivial), HB.out⟩

      · rw [if_neg c3] at h
        cases h
    · rw [if_neg c2] at h
      rw [decide_eq_false (show ¬ ((1 : Int) ≤ (l0_1.length : Int) ∧ (l0_1.length : Int) ≤ 4) by omega)] at C2
      obtain ⟨rfl, rfl⟩ := Prod.mk.inj (Option.some.inj h)
      clear h c1 c2 hT
      go_enter Tryz.func20, Tryz.ntmps20
      go_wp2_with (first | (go_at_call 41; refine (C1 _ hB2).mono ?_; rintro e w3 ⟨rfl, hb3⟩; have BM := Aside0.mk (blk_below hm2 hb3); have HB := Aside0.mk (below_then hB2 hB2.size hb3); clear hm2 hn2 hB2 hb3; have z1 : w3.cell? ⟨w.heap.size, 1, none⟩ = some (.slice A0_1 l0_1.length c0_1) := (blk_cell BM.out 1).trans rfl) | (go_at_call 21; refine (C2 _).mono ?_; rintro e w4 ⟨rfl, ⟨nd, rfl⟩⟩))
      go_ret2
      exact ⟨_, rfl, Kd.R_nil _ _ _ _ _, pw_below_drewN HB.out _⟩
  · rw [if_neg c1] at h
    rw [Bool.eq_false_iff.mpr c1] at C1
    obtain ⟨rfl, rfl⟩ := Prod.mk.inj (Option.some.inj h)
    clear h c1 hT
    go_enter Tryz.func20, Tryz.ntmps20
    go_wp2_with (first | (go_at_call 41; refine (C1 _ hB2).mono ?_; rintro e w3 ⟨rfl, hb3⟩; have HB := Aside0.mk (below_then hB2 hB2.size hb3); clear hm2 hn2 hB2 hb3))
    go_ret2
    exact ⟨_, rfl, Kd.R_nil _ _ _ _ _, HB.out⟩
end Go.Proofs.YtobboonnfocalaaGreatDoor.PG1
