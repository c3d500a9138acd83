/- More short forms. Conditions: none. -/
import Derived.Test.YtobboonnfocalaaT
set_option linter.unusedVariables false
namespace Go.Proofs.Ytobboonnfocalaa.T
open Go.RowKit Go.Proofs.YtobboonnfocalaaW.PrintWords Go.Proofs.YtobboonnfocalaaW.PrintLast Go.Proofs.YtobboonnfocalaaW.PrintMore

theorem rback {α : Type} {d : Kd α} {e : Nat} {w w' : World} {base g : Nat} {ok : Nat → Prop} {v : Value} {xs : List α} (_h : d.R e w base (fun k => ok k ∧ k ≠ g) v xs) (h : d.R e w' base (fun k => ok k ∧ k ≠ g) v xs) : d.R e w' base ok v xs := Kd.R_mono h (fun _ h => h.1)
theorem rx {α : Type} {d : Kd α} {e : Nat} {w : World} {base g t : Nat} {ok : Nat → Prop} {v : Value} {xs : List α} {cs : Array Value} {q : Prop} (h : Aside0 (d.R e w base ok v xs)) (hb : Aside0 (w.heap[g]? = some (.cells cs t (0, 0)))) (hc : d.R e w base (fun k => ok k ∧ k ≠ g) v xs → q := by (intro h_; refine rback h_ ?_; (with_reducible repeat (first | refine Kd.R_far ?_ (fun _ hk => hk.2) _ | apply Kd.R_alloc | apply Kd.R_drewN | apply Kd.R_drew)); first | with_reducible exact h_ | exact h_)) (ht : ∀ q, q ∈ e :: d.E → q ≠ t := by decide) : q := hc (Kd.R_types h.out hb.out ht)
theorem bs {α β : Type} {a : α} {f : α → Option β} {r : Option β} (h : (some a).bind f = r) : f a = r := h
theorem ca_far {g g' : Nat} (h : g ≠ g') : ∀ (l : List Value) (i : Nat) (W : World) (j : Nat) (u : Value), CA (W.setCell ⟨g', j, none⟩ u) g i l = CA W g i l
  | [], _, _, _, _ => rfl
  | [v], i, W, j, u => congrArg (· = some v) (cell_far (W := W) (p := ⟨g', j, none⟩) (a := ⟨g, i, none⟩) h u)
  | v :: x :: l, i, W, j, u => by rw [CA_cons, CA_cons, ca_far h (x :: l) (i + 1) W j u, cell_far (W := W) (p := ⟨g', j, none⟩) (a := ⟨g, i, none⟩) h u]
theorem cf {w : World} {g g' i : Nat} {l : List Value} {q : Prop} (h : Aside0 (g ≠ g')) (c : CA w g i l) (hq : (∀ (W : World) (j : Nat) (u : Value), CA (W.setCell ⟨g', j, none⟩ u) g i l = CA W g i l) → CA w g i l → q := by (intro f_ h_; simp only [f_]; exact h_)) : q := hq (fun W j u => ca_far h.out l i W j u) c
/-! A world that is written out gets a name. -/
theorem rz {C z : World} {α : Type} {d : Kd α} {e : Nat} {w : World} {base g t : Nat} {ok : Nat → Prop} {v : Value} {xs : List α} {cs : Array Value} (q : C = z) (h : Aside0 (d.R e w base ok v xs)) (hb : Aside0 (w.heap[g]? = some (.cells cs t (0, 0)))) (hc : d.R e w base (fun k => ok k ∧ k ≠ g) v xs → d.R e C base (fun k => ok k ∧ k ≠ g) v xs := by (intro h_; (with_reducible repeat (first | refine Kd.R_far ?_ (fun _ hk => hk.2) _ | apply Kd.R_alloc | apply Kd.R_drewN | apply Kd.R_drew)); first | with_reducible exact h_ | exact h_)) (ht : ∀ q, q ∈ e :: d.E → q ≠ t := by decide) : Aside0 (d.R e z base ok v xs) := ⟨q ▸ Kd.R_mono (hc (Kd.R_types h.out hb.out ht)) (fun _ h => h.1)⟩
theorem rb {C z w : World} {g : Nat} {ob : Obj} (q : C = z) (h : Aside0 (w.heap[g]? = some ob)) (f : w.heap[g]? = some ob → C.heap[g]? = some ob := by (intro h_; (repeat (first | (with_reducible first | refine blk_drewN ?_ _ | refine blk_drew ?_ | refine blk_alloc ?_ _) | (with_reducible apply bfar; rotate_left; with_reducible assumption))); exact h_)) : Aside0 (z.heap[g]? = some ob) := ⟨q ▸ f h.out⟩
theorem rp {C z w : World} {g t : Nat} {cs cs1 : Array Value} (q : C = z) (b : Aside0 (w.heap[g]? = some (.cells cs t (0, 0)))) (cs' : Array Value) (f : w.heap[g]? = some (.cells cs t (0, 0)) → C.heap[g]? = some (.cells cs1 t (0, 0)) := by (intro h_; (repeat (first | (with_reducible first | refine blk_drewN ?_ _ | refine blk_drew ?_ | refine blk_alloc ?_ _ | apply blk_set) | (with_reducible apply bfar; rotate_left; with_reducible assumption))); exact h_)) (e : cs1 = cs' := by first | with_reducible rfl | (simp only [List.setIfInBounds_toArray, List.set_cons_zero, List.set_cons_succ]; done) | rfl) : Aside0 (z.heap[g]? = some (.cells cs' t (0, 0))) := ⟨q ▸ e ▸ f b.out⟩
theorem rh {C z w : World} {n : Nat} (q : C = z) (h : Below n w C := by exact bw) : Aside0 (Below n w z) := ⟨q ▸ h⟩
end Go.Proofs.Ytobboonnfocalaa.T
