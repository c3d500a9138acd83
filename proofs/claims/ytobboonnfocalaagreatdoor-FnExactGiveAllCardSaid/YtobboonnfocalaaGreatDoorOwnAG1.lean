/- The closure of owners that gives a run of chunks an owner. Conditions: none. -/
import Derived.Test.YtobboonnfocalaaGreatDoorPG1x3
import Derived.Test.YtobboonnfocalaaGreatDoorVG10
import Derived.Test.YtobboonnfocalaaGreatDoorWldG1
import Derived.Deep.RegionHeld3
import Derived.Shelf.Abstract
set_option linter.unusedVariables false
set_option linter.unusedSimpArgs false
namespace Go.Proofs.YtobboonnfocalaaGreatDoor.PG1
open Go.RowKit Go.Proofs.YtobboonnfocalaaGreatDoor.Sl Go.Proofs.YtobboonnfocalaaGreatDoorW.PrintWords Go.Proofs.YtobboonnfocalaaGreatDoorW.PrintLast Go.Proofs.YtobboonnfocalaaGreatDoorW.PrintMore

/-- The closure: chunks c, c+1, .. below stop, as far as each is there, free of an owner and held. -/
def ownL (n : Int) (words : List Int) : Nat → List Int → Int → Int → Int → Bool × List Int
  | 0, list, _, _, _ => (true, list)
  | d + 1, list, c, stop, who =>
    if c < stop then (if n ≤ c then (false, list) else if rd list c = -1 then (if rd words c = 3145728 then ownL n words d (list.set c.toNat who) (c + 1) stop who else (false, list)) else (false, list)) else (true, list)
theorem held_word : impl_HeldWord.f = some 3145728 := by decide +kernel
theorem held5 {wr W w' : World} {a1 a2 a3 a4 a5 : Addr} {v1 v2 v3 v4 v5 : Value} (hb : Below W.heap.size W w') (hS : Below wr.heap.size wr W ∧ W.cell? a1 = some v1 ∧ W.cell? a2 = some v2 ∧ W.cell? a3 = some v3 ∧ W.cell? a4 = some v4 ∧ W.cell? a5 = some v5) :
    Below wr.heap.size wr w' ∧ w'.cell? a1 = some v1 ∧ w'.cell? a2 = some v2 ∧ w'.cell? a3 = some v3 ∧ w'.cell? a4 = some v4 ∧ w'.cell? a5 = some v5 := by
  have c : ∀ {a v}, W.cell? a = some v → w'.cell? a = some v := fun h => (hb.cell (World.block_lt_of_cell? W _ h)).trans h
  exact ⟨below_then hS.1 hS.1.size hb, c hS.2.1, c hS.2.2.1, c hS.2.2.2.1, c hS.2.2.2.2.1, c hS.2.2.2.2.2⟩
theorem held_get {wr W : World} {p : Prop} (hS : Below wr.heap.size wr W ∧ p) : Below wr.heap.size wr W := hS.1
set_option maxHeartbeats 4000000 in
set_option maxRecDepth 100000 in
theorem own_ (words list : List Int) (start count who : Int) (gn gl gm nc lw cw lp cp : Nat) (Ar Aw Ap : Option Addr) (w0 w : World) (ok : Nat → Prop) (b : Bool) (l2 : List Int)
    (hB : Below w0.heap.size w0 w) (hn : w.heap[gn]? = some (.cells #[.int .i64 list.length] 3 (0, 0))) (hl : w.heap[gl]? = some (.cells #[.slice Ar list.length nc] 29 (0, 0)))
    (hm : w.heap[gm]? = some (.cells #[.slice Aw words.length cw, .slice Ap lp cp] 37 (0, 0))) (hR : Kd.R (Kd.int .i64) 3 w w0.heap.size ok (.slice Ar list.length nc) list)
    (hC : Kd.C (Kd.int .u32) w0 Aw words.length words) (hlen : words.length = list.length) (hl16 : list.length ≤ 16) (hs : 0 ≤ start ∧ start ≤ 100) (hc : 0 ≤ count ∧ count ≤ 100)
    (hok : ∀ k, ok k → k ≠ gn ∧ k ≠ gl ∧ k ≠ gm) (h : ownL list.length words count.toNat list start (start + count) who = (b, l2)) :
    Calls Tryz.prog 45 #[.int .i64 start, .int .i64 count, .int .i64 who, .pointer (some ⟨gn, 0, none⟩), .pointer (some ⟨gl, 0, none⟩), .pointer (some ⟨gm, 0, none⟩)] w fun e w' =>
      e = .returned (.bool b) ∧ Kd.R (Kd.int .i64) 3 w' w0.heap.size (fun k => ok k ∨ w.heap.size ≤ k) (.slice Ar list.length nc) l2 ∧ Below w0.heap.size w0 w' ∧ Kept w w' ok := by
  have HC := Aside0.mk hC
  have hu := Tryz.underlying37
  have C1 : ∀ W, Calls Tryz.prog 46 #[] W fun e w' => e = .returned (.int .u32 3145728) ∧ Below W.heap.size W w' := fun W => impl_HeldWord.calls _ W held_word
  have HB := Aside0.mk hB
  have HK := Aside0.mk (Kept.refl w ok)
  have BN := Aside0.mk hn
  have BL := Aside0.mk hl
  have BM := Aside0.mk hm
  have HO := Aside0.mk (show Kd.R (Kd.int .i64) 3 w w0.heap.size (fun k => ok k ∨ w.heap.size ≤ k) (.slice Ar list.length nc) list from Kd.R_mono hR (fun k hk => .inl hk))
  have hw1 : IntKind.i64.wrap (start + count) = start + count := (i64_w _).trans (by unfold wrap64; omega)
  obtain ⟨L, hL⟩ : ∃ L : Nat, (list.length : Nat) = L := ⟨_, rfl⟩
  obtain ⟨stop, hstop⟩ : ∃ s : Int, start + count = s := ⟨_, rfl⟩
  rw [hstop] at h hw1
  rw [hL] at h hl16 hlen hn hl hR HO BN BL ⊢
  have hLen := Aside0.mk hL
  have BN0 := BN
  have BL0 := BL
  have BM0 := BM
  clear hL hn hl hm hR hC hB
  go_enter Tryz.func45, Tryz.ntmps45
  go_wp2
  go_loopg [10] count.toNat (fun gg v10 wr => ∃ (c : Int) (l : List Int), v10 = .int .i64 c ∧ (0 ≤ c ∧ c ≤ stop ∧ stop - c ≤ gg) ∧ l.length = L ∧ Aside0 (ownL L words gg l c stop who = (b, l2)) ∧ Aside0 (Kd.R (Kd.int .i64) 3 wr w0.heap.size (fun k => ok k ∨ w.heap.size ≤ k) (.slice Ar L nc) l) ∧ Aside0 (wr.heap[gn]? = some (.cells #[.int .i64 L] 3 (0, 0))) ∧ Aside0 (wr.heap[gl]? = some (.cells #[.slice Ar L nc] 29 (0, 0))) ∧ Aside0 (wr.heap[gm]? = some (.cells #[.slice Aw words.length cw, .slice Ap lp cp] 37 (0, 0))) ∧ Aside0 (Below w0.heap.size w0 wr) ∧ Aside0 (Kept w wr ok))
  case atStart => exact ⟨start, list, rfl, ⟨by omega, by omega, by omega⟩, hLen.out, ⟨h⟩, HO, BN, BL, BM, HB, HK⟩
  case round =>
    clear h
    obtain ⟨c, l, rfl, hc3, hll, HA, HO, BN, BL, BM, HB, HK⟩ := hrel
    subst hll
    by_cases c1 : c < stop
    · have c1b : decide (c < stop) = true := decide_eq_true c1
      obtain ⟨gk, rfl⟩ : ∃ m, gk = m + 1 := ⟨gk - 1, by omega⟩
      have z1 : wr.cell? ⟨gn, 0, none⟩ = some (.int .i64 l.length) := (blk_cell BN.out 0).trans rfl
      have z2 : wr.cell? ⟨gl, 0, none⟩ = some (.slice Ar l.length nc) := (blk_cell BL.out 0).trans rfl
      have z3 : wr.cell? ⟨gm, 0, none⟩ = some (.slice Aw words.length cw) := (blk_cell BM.out 0).trans rfl
      have H := HA.out
      simp only [ownL, c1, if_true] at H
      clear HA
      by_cases c2 : (l.length : Int) ≤ c
      · rw [if_pos c2] at H
        obtain ⟨rfl, rfl⟩ := Prod.mk.inj H
        clear H
        have c2b : decide (c ≥ (l.length : Int)) = true := decide_eq_true c2
        go_wp2
        go_region
        go_wp2
        go_ret
        exact ⟨rfl, Kd.R_drew HO.out, below_drew HB.out, HK.out⟩
      · rw [if_neg c2] at H
        have c2b : decide (c ≥ (l.length : Int)) = false := decide_eq_false c2
        obtain ⟨go, co, eo, gb, gL, cL, HG⟩ := Kd.R_form HO.out (by omega)
        cases eo
        have GB := Aside0.mk gb
        have p1 : 0 ≤ c := hc3.1
        have q1 : c < (l.length : Int) := by omega
        have q2 : c < (words.length : Int) := by omega
        obtain ⟨hx, hf⟩ := Kd.R_celln 0 HO.out c p1 q1
        have hx' : wr.cell? ⟨go, c.toNat, none⟩ = some (.int .i64 (rd l c)) := hx
        clear hx
        obtain ⟨ad, ead, hy⟩ := Kd.at_int (Kd.C_below HC.out HB.out) c p1 q2
        subst ead
        have P1 := eq_true p1
        have Q1 := eq_true q1
        have Q2 := eq_true q2
        by_cases c3 : rd l c = -1
        · rw [if_pos c3] at H
          rw [c3] at hx'
          by_cases c4 : rd words c = 3145728
          · rw [if_pos c4] at H
            rw [c4] at hy
            go_wp2
            go_region_held3 (fun w' => Below wr.heap.size wr w' ∧ w'.cell? ⟨gn, 0, none⟩ = some (.int .i64 l.length) ∧ w'.cell? ⟨gl, 0, none⟩ = some (.slice (some ⟨go, 0, none⟩) l.length nc) ∧ w'.cell? ⟨gm, 0, none⟩ = some (.slice (some ad) words.length cw) ∧ w'.cell? ⟨go, c.toNat, none⟩ = some (.int .i64 (-1)) ∧ w'.cell? (ad.add c.toNat) = some (.int .u32 3145728)) (first | exact ⟨below_drew (Below.refl _ _), z1, z2, z3, hx', hy⟩ | exact held5 hb (by assumption)) (first | (go_at_call 46; refine (C1 _).mono ?_; rintro e w' ⟨rfl, hb⟩))
            have hE := held_get (wr := wr) (by assumption)
            have HO2 := Aside0.mk (Kd.R_below HO.out hE)
            have BN2 := Aside0.mk (blk_below BN.out hE)
            have BL2 := Aside0.mk (blk_below BL.out hE)
            have BM2 := Aside0.mk (blk_below BM.out hE)
            have HB2 := Aside0.mk (below_then HB.out (by omega) hE)
            have HK2 := Aside0.mk (HK.out.below hE)
            have z2' : w'.cell? ⟨gl, 0, none⟩ = some (.slice (some ⟨go, 0, none⟩) l.length nc) := (blk_cell BL2.out 0).trans rfl
            obtain ⟨hx2, hf2⟩ := Kd.R_celln 0 HO2.out c p1 q1
            have HP := Kd.R_putg HO2.out c who
            have hgo : ∀ k, some go = some k → (ok k ∨ w.heap.size ≤ k) := fun k e => HO2.out.1 k e
            have hne : go ≠ gn ∧ go ≠ gl ∧ go ≠ gm := by
              rcases hgo go rfl with h | h
              · exact hok go h
              · have h1 := blk_lt BN0.out
                have h2 := blk_lt BL0.out
                have h3 := blk_lt BM0.out
                omega
            clear hf z1 z2 z3 hx' hy HO BN BL BM HB HK
            have hg := HP.2
            have HO3 := Aside0.mk HP.1
            have HB3 : Aside0 (Below w0.heap.size w0 (w'.setCell ⟨go, c.toNat, none⟩ (.int .i64 who))) := ⟨below_set HB2.out GB.out⟩
            clear HP
            go_wp2
            go_roundg gk
            case measure => omega
            case rel =>
              refine ⟨c + 1, l.set c.toNat who, ?_, ⟨by omega, by omega, by omega⟩, by simp [List.length_set], ⟨H⟩, ?_, ⟨blk_grown BN2.out hg ?_⟩, ⟨blk_grown BL2.out hg ?_⟩, ⟨blk_grown BM2.out hg ?_⟩, HB3, ⟨Kept.of_grown hg HK2.out hgo⟩⟩
              · have : IntKind.i64.wrap (c + 1) = c + 1 := (i64_w _).trans (by unfold wrap64; omega)
                simp [this]
              · exact HO3
              · simpa using fun e => hne.1 e.symm
              · simpa using fun e => hne.2.1 e.symm
              · simpa using fun e => hne.2.2 e.symm
          · rw [if_neg c4] at H
            obtain ⟨rfl, rfl⟩ := Prod.mk.inj H
            clear H
            have c4b : (rd words c != 3145728) = true := bne_iff_ne.mpr c4
            go_wp2
            go_region_held3 (fun w' => Below wr.heap.size wr w' ∧ w'.cell? ⟨gn, 0, none⟩ = some (.int .i64 l.length) ∧ w'.cell? ⟨gl, 0, none⟩ = some (.slice (some ⟨go, 0, none⟩) l.length nc) ∧ w'.cell? ⟨gm, 0, none⟩ = some (.slice (some ad) words.length cw) ∧ w'.cell? ⟨go, c.toNat, none⟩ = some (.int .i64 (-1)) ∧ w'.cell? (ad.add c.toNat) = some (.int .u32 (rd words c))) (first | exact ⟨below_drew (Below.refl _ _), z1, z2, z3, hx', hy⟩ | exact held5 hb (by assumption)) (first | (go_at_call 46; refine (C1 _).mono ?_; rintro e w' ⟨rfl, hb⟩))
            have hE := held_get (wr := wr) (by assumption)
            go_wp2
            go_ret
            exact ⟨rfl, Kd.R_below HO.out hE, below_then HB.out (by omega) hE, HK.out.below hE⟩
        · rw [if_neg c3] at H
          obtain ⟨rfl, rfl⟩ := Prod.mk.inj H
          clear H
          have c3b : (rd l c != -1) = true := bne_iff_ne.mpr c3
          go_wp2
          go_region
          go_wp2
          go_ret
          exact ⟨rfl, Kd.R_drew HO.out, below_drew HB.out, HK.out⟩
    · have c1b : decide (c < stop) = false := decide_eq_false c1
      have e : (b, l2) = (true, l) := by
        have := HA.out
        cases gk with
        | zero => simp only [ownL] at this; exact this.symm
        | succ gk => simp only [ownL, c1, if_false] at this; exact this.symm
      obtain ⟨rfl, rfl⟩ := Prod.mk.inj e
      clear e HA
      go_wp2
      go_ret
      exact ⟨rfl, HO.out, HB.out, HK.out⟩
end Go.Proofs.YtobboonnfocalaaGreatDoor.PG1
