/- Short forms of the steps that the walks of these texts take over and over. Conditions: none. -/
import Derived.Test.YtobboonnfocalaaGreatDoorVG10
import Derived.KernelRfl
import Derived.WalkKit
set_option linter.unusedVariables false
namespace Go.Proofs.YtobboonnfocalaaGreatDoor.T
open Go.RowKit Go.Proofs.YtobboonnfocalaaGreatDoorW.PrintWords Go.Proofs.YtobboonnfocalaaGreatDoorW.PrintLast Go.Proofs.YtobboonnfocalaaGreatDoorW.PrintMore

theorem bfar {w : World} {g g' j t : Nat} {cs : Array Value} {u : Value} (h : w.heap[g]? = some (.cells cs t (0, 0))) (hp : Aside0 (g ≠ g')) : (w.setCell ⟨g', j, none⟩ u).heap[g]? = some (.cells cs t (0, 0)) := blk_far h hp.out u
theorem bset {w W : World} {g j : Nat} {u : Value} (h : Below w.heap.size w W) (k : Aside0 (w.heap.size ≤ g)) : Below w.heap.size w (W.setCell ⟨g, j, none⟩ u) := below_set h k.out
/-! Closing steps: a tactic is laid here once, and runs where the short form stands, on the names there. -/
theorem kr {α : Type} {a b : α} (h : a = b := by kernel_rfl) : a = b := h
theorem bw {n : Nat} {w w' : World} (h : Below n w w' := by repeat (first | (with_reducible first | exact HB.out | apply below_alloc | apply pw_below_drewN | apply below_drew1 | refine bset ?_ (by with_reducible assumption)) | exact HB.out)) : Below n w w' := h
theorem rt {p : Prop} (h : p := by first | rfl | (simp only [i64_w, i32_w] <;> rfl) | (simp [errW_none, errW_some] <;> rfl) | (simp [*, errW_none, errW_some] <;> rfl)) : p := h
theorem rt1 {p : Prop} (h : p := by first | rfl | (simp only [i64_w, i32_w] <;> rfl) | (simp [errW_none, errW_some] <;> rfl)) : p := h
theorem ev {p : Prop} (h : p := by first | rfl | (simp; done) | (simp [*]; done) | (simp; rw [Int.tdiv_eq_ediv_of_nonneg (by omega)])) : p := h
theorem as_ {p : Prop} (h : p := by first | (with_reducible assumption) | assumption) : p := h
theorem om {p : Prop} (h : p := by first | omega | exact Nat.le_refl _) : p := h
theorem oa {p q : Prop} (b : Aside0 q) (h : q → p := by (intro h_; omega)) : p := h b.out
theorem dr {w w' : World} (h : Drawn0 w w' := by repeat (first | exact Drawn0.refl _ | apply Drawn0.step)) : Drawn0 w w' := h
theorem ar {p : Prop} (h : p := by (try simp only [List.map_toArray, List.map_cons, List.map_nil]); first | done | rfl | (simp only [List.length_drop, List.length_take]; rfl)) : p := h
theorem bk {p q : Prop} (b : Aside0 p) (h : p → q := by (intro h_; (repeat (first | (with_reducible first | refine blk_drewN ?_ _ | refine blk_drew ?_ | refine blk_alloc ?_ _) | (with_reducible apply bfar; rotate_left; with_reducible assumption))); exact h_)) : q := h b.out
theorem ro {p q : Prop} (b : Aside0 p) (h : p → q := by (intro h_; (with_reducible repeat (first | apply Kd.R_alloc | apply Kd.R_drewN | apply Kd.R_drew)); exact h_)) : q := h b.out
theorem ab {p q : Prop} (b : q) (h : q → p := by (intro h_; first | (rw [add_block]; exact h_) | (show (Addr.add _ _).block ≠ _; rw [add_block]; exact h_) | exact h_)) : p := h b
theorem cb {p q : Prop} (b : Aside0 p) (h : p → q := by (intro h_; repeat (first | (with_reducible first | exact (Kd.C_below h_ HB.out) | refine Kd.C_alloc ?_ _ | refine Kd.C_drewN ?_ _ | refine Kd.C_drew ?_) | exact (Kd.C_below h_ HB.out) | exact (Kd.C_below h_ bw)))) : q := h b.out
theorem cr {p q : Prop} (b : Aside0 p) (h : p → q := by (intro h_; repeat (first | (with_reducible first | exact (Kd.R_reads' h_).2.2 | refine Kd.C_alloc ?_ _ | refine Kd.C_drewN ?_ _ | refine Kd.C_drew ?_) | exact (Kd.R_reads' h_).2.2))) : q := h b.out

theorem bp {p : Prop} {w : World} {g t : Nat} {cs cs' : Array Value} {fr : Nat × Nat} (b : Aside0 p) (h : p → w.heap[g]? = some (.cells cs t fr) := by (intro h_; (repeat (first | (with_reducible first | refine blk_drewN ?_ _ | refine blk_drew ?_ | refine blk_alloc ?_ _ | apply blk_set) | (with_reducible apply bfar; rotate_left; with_reducible assumption))); exact h_)) (e : cs = cs' := by first | with_reducible rfl | (simp only [List.setIfInBounds_toArray, List.set_cons_zero, List.set_cons_succ]; done) | rfl) : w.heap[g]? = some (.cells cs' t fr) := e ▸ h b.out
/-- The list of what has come up, as the bits of a number. -/
def bl (n m : Nat) : Array Bool := ((List.range n).map m.testBit).toArray
section
variable {P : Program} {ops : Array Oper} {Q : Exit → Act → World → Prop} {S : World → Prop} {ds : List Nat} {oi : Oper} {v : Value} {fuel : Nat} {l : Array Bool} {a a' : Act} {w : World}
theorem pu (i N : Nat) (l' : Array Bool) (h : wpAnyLast P .any ops Q S ds fuel l' a' w) (hi : ops[i]? = some oi := by rfl) (hN : oi.dst = some N := by rfl) (hc : anyB .any ops l l' i = true := by first | exact any_of HT_.out (by kernel_rfl) | kernel_rfl)
    (hQ : ∀ c a w, Q (.panic c) (a.put oi.dst v) w → Q (.panic c) a w := by exact fun _ _ _ h => h) (hw : Region.wanted oi (yielded ops a.tmps) = true := by rfl)
    (hy : ∀ w', (execOp a.eval oi).run P w' = .ok (.value v) w' := by (intro w'; go_simp; with_reducible rfl))
    (ha : a.put (some N) v = a' := by (simp only [Act.put, List.setIfInBounds_toArray, List.set_cons_zero, List.set_cons_succ, i64_w, i32_w]; rfl)) : wpAnyLast P .any ops Q S ds (fuel + 1) l a w :=
  pure_ l' hi hN hc hQ (Or.inl ⟨hw, hy⟩) ha h
theorem pf (i N : Nat) (l' : Array Bool) (h : wpAnyLast P .any ops Q S ds fuel l' a' w) (hi : ops[i]? = some oi := by rfl) (hN : oi.dst = some N := by rfl) (hc : anyB .any ops l l' i = true := by first | exact any_of HT_.out (by kernel_rfl) | kernel_rfl)
    (hQ : ∀ c a w, Q (.panic c) (a.put oi.dst undef) w → Q (.panic c) a w := by exact fun _ _ _ h => h) (hw : Region.wanted oi (yielded ops a.tmps) = false := by rfl)
    (ha : a.put (some N) undef = a' := by (simp only [Act.put, List.setIfInBounds_toArray, List.set_cons_zero, List.set_cons_succ, i64_w, i32_w]; rfl)) : wpAnyLast P .any ops Q S ds (fuel + 1) l a w :=
  pure_ l' hi hN hc hQ (Or.inr ⟨hw, rfl⟩) ha h
/-- The cells of a block from a place on. -/
def CA (w : World) (g : Nat) : Nat → List Value → Prop
  | _, [] => True
  | i, [v] => w.cell? ⟨g, i, none⟩ = some v
  | i, v :: l => w.cell? ⟨g, i, none⟩ = some v ∧ CA w g (i + 1) l
theorem CA_one {w : World} {g i : Nat} {v : Value} : CA w g i [v] = (w.cell? ⟨g, i, none⟩ = some v) := rfl
theorem CA_cons {w : World} {g i : Nat} {v u : Value} {l : List Value} : CA w g i (v :: u :: l) = (w.cell? ⟨g, i, none⟩ = some v ∧ CA w g (i + 1) (u :: l)) := rfl
theorem CA_of {w : World} {g t : Nat} {cs : Array Value} (h : w.heap[g]? = some (.cells cs t (0, 0))) : ∀ (l : List Value) (i : Nat), cs.toList.drop i = l → CA w g i l
  | [], _, _ => trivial
  | [v], i, e => by
    have e1 : cs.toList[i]? = some v := by have := congrArg (fun x => x[0]?) e; simpa using this
    exact (blk_cell h i).trans (by simpa using e1)
  | v :: u :: l, i, e => by
    have e1 : cs.toList[i]? = some v := by have := congrArg (fun x => x[0]?) e; simpa using this
    refine ⟨(blk_cell h i).trans (by simpa using e1), CA_of h (u :: l) (i + 1) ?_⟩
    have := congrArg List.tail e
    simpa [List.tail_drop] using this
theorem cx {p : Prop} {w : World} {g t : Nat} {cs : Array Value} {l : List Value} (b : Aside0 p) (h : p → w.heap[g]? = some (.cells cs t (0, 0)) := by (intro h_; (with_reducible repeat (first | refine blk_drewN ?_ _ | refine blk_drew ?_ | refine blk_alloc ?_ _)); exact h_)) (e : cs.toList = l := by rfl) : CA w g 0 l := CA_of (h b.out) l 0 (by simpa using e)
theorem tk (i N : Nat) (l' : Array Bool) (h : wpAnyLast P .any ops Q S ds fuel l' a' w) (hi : ops[i]? = some oi := by rfl) (hN : oi.dst = some N := by rfl) (hc : takeB .any ops ds l l' i = true := by first | exact take_ofW HT_.out HW_.out (by kernel_rfl) | kernel_rfl)
    (hQ : ∀ c a w, Q (.panic c) (a.put oi.dst v) w → Q (.panic c) a w := by exact fun _ _ _ h => h) (hw : Region.wanted oi (yielded ops a.tmps) = true := by rfl)
    (hy : ∀ w', S w' → (execOp a.eval oi).run P w' = .ok (.value v) w' := by (intro w' hs_; (try simp only [CA_cons, CA_one, Nat.reduceAdd, and_assoc] at hs_); (repeat (rcases hs_ with ⟨s_, hs_⟩)); go_simp; with_reducible rfl)) (hS : S w := by exact hHeld)
    (ha : a.put (some N) v = a' := by (simp only [Act.put, List.setIfInBounds_toArray, List.set_cons_zero, List.set_cons_succ, i64_w, i32_w]; rfl)) : wpAnyLast P .any ops Q S ds (fuel + 1) l a w :=
  take_ l' hi hN hc hQ (Or.inl ⟨hw, hy⟩) hS ha h
theorem dn (h : Q .normal a w) (n : Nat) (hr : (Region.ready .any ops l == []) = true := by first | exact done_of HT_.out (by kernel_rfl) | kernel_rfl) : wpAnyLast P .any ops Q S ds n l a w := done_ hr h
theorem nm (h : wpAnyLast P .any ops Q S ds fuel l a' w) (ha : a = a' := by (show Act.put _ (some _) _ = _; simp only [Act.put, List.setIfInBounds_toArray, List.set_cons_zero, List.set_cons_succ, i64_w, i32_w]; rfl)) : wpAnyLast P .any ops Q S ds fuel l a w := norm_ ha h
theorem ap {c : Code} (h : c.wp P Q a' w) (ha : a = a' := by (simp only [Act.put, List.setIfInBounds_toArray, List.set_cons_zero, List.set_cons_succ]; rfl)) : c.wp P Q a w := ha ▸ h
theorem on_ (i : Nat) (N : Option Tmp) (l' : Array Bool)
    (h : ∀ K : Act → World → Prop, Shut (∀ a' w', S w' → (S w' → wpAnyLast P .any ops Q S ds fuel l' a' w') → K a' w') → if Region.wanted oi (yielded ops a.tmps) = true then Oper.wp P oi a w K Q else K (a.put N undef) w)
    (hi : ops[i]? = some oi := by rfl) (hN : oi.dst = N := by rfl) (hc : readyB .any ops l l' i = true := by first | exact one_of HT_.out (by kernel_rfl) | kernel_rfl) (hd : i ∉ ds := by decide) : wpAnyLast P .any ops Q S ds (fuel + 1) l a w := one_ l' hi hN hc hd h
theorem st0 {id : Nat} (n : Nat) (S : World → Prop) (ds : List Nat) (hS : S w.drew) (h : S w.drew → wpAnyLast P .any ops Q S ds n (bl n 0) a w.drew)
    (hm : P.follows .mixedOrders = true := by kernel_rfl) (hn : ops.size = n := by rfl) (hl : Array.replicate n false = bl n 0 := by rfl) : (Code.region id ops true).wp P Q a w := start_ (bl n 0) hm hn hl hS h
theorem st {id : Nat} (n : Nat) (S : World → Prop) (ds : List Nat) {T : Bool × List (List Nat × List Nat)} {B : List Nat} (hS : S w.drew) (hT : rtab .any ops = T) (hB : waitsOk T.2 B = true)
    (h : S w.drew → Aside0 (rtab .any ops = T) → Aside0 (waitsOk T.2 B = true) → wpAnyLast P .any ops Q S ds n (bl n 0) a w.drew)
    (hm : P.follows .mixedOrders = true := by kernel_rfl) (hn : ops.size = n := by rfl) (hl : Array.replicate n false = bl n 0 := by rfl) : (Code.region id ops true).wp P Q a w := start_ (bl n 0) hm hn hl hS (fun k => h k ⟨hT⟩ ⟨hB⟩)
end
/-! Events of a plain region. -/
section
variable {P : Program} {ops : Array Oper} {Q : Exit → Act → World → Prop} {o : Oper} {rest : List Oper} {a : Act} {w W : World}
theorem bx {w0 : World} (N : Nat) (t : Nat) (cs : Array Value)
    (h : ∀ g w1, g = W.heap.size → Aside0 (w1.heap[g]? = some (.cells cs t (0, 0))) → Below W.heap.size W w1 → Aside0 (w0.heap.size ≤ g) → Aside0 (Below w0.heap.size w0 w1) → wpList P ops Q rest (a.put o.dst (.pointer (some ⟨g, 0, none⟩))) w1)
    (hd : o.dst = some N := by with_reducible rfl) (hg : o.guard = none := by rfl)
    (hr : (execOp a.eval o).run P W = .ok (.value (.pointer (some ⟨W.heap.size, 0, none⟩))) (W.alloc (.cells cs t (0, 0))) := by first | (go_simp; done) | (go_simp; rfl))
    (hB : Below w0.heap.size w0 W := by exact bw) : wpList P ops Q (o :: rest) a W :=
  box_event hg hd hr fun g e w1 hb k => h g w1 e ⟨hb⟩ k ⟨by rw [e]; exact below_size hB⟩ ⟨below_step hB k⟩
theorem bx0 (N : Nat) (t : Nat) (cs : Array Value)
    (h : ∀ g, g = W.heap.size → ∀ w1, w1.heap[g]? = some (.cells cs t (0, 0)) → Below W.heap.size W w1 → wpList P ops Q rest (a.put o.dst (.pointer (some ⟨g, 0, none⟩))) w1)
    (hd : o.dst = some N := by with_reducible rfl) (hg : o.guard = none := by rfl)
    (hr : (execOp a.eval o).run P W = .ok (.value (.pointer (some ⟨W.heap.size, 0, none⟩))) (W.alloc (.cells cs t (0, 0))) := by first | (go_simp; done) | (go_simp; rfl)) : wpList P ops Q (o :: rest) a W :=
  box_event hg hd hr h
theorem gd (N : Nat) (h : wpList P ops Q (o :: rest) a W) (hd : o.dst = some N := by with_reducible rfl) : wpList P ops Q (o :: rest) a W := h
theorem gf (f : FuncId) {as : Array Operand} {ts : Array TypeId} (h : wpList P ops Q (o :: rest) a W) (ho : o.op = .call { callee := .value (.func f), args := as, argTypes := ts } := by with_reducible rfl) : wpList P ops Q (o :: rest) a W := h
theorem gc {f : FuncId} {fn : Func} {as : Array Operand} {ts : Array TypeId} {args : Array Value} {R : Ending → World → Prop} (hf : P.funcs[f]? = some fn) (N : Option Tmp) (c : Calls P f args W R)
    (h : ∀ e w', R e w' → ∃ v, e = .returned v ∧ wpList P ops Q rest (a.put N v) w') (hd : o.dst = N := by rfl) (hg : o.guard = none := by rfl)
    (hn : (fn.name == "runtime.NumGoroutine") = false := by kernel_rfl) (hb : fn.body.isSome = true := by rfl) (ho : o.op = .call { callee := .value (.func f), args := as, argTypes := ts } := by rfl) (ha : as.map a.eval = args := by exact ar) : wpList P ops Q (o :: rest) a W :=
  goesL_ N hd hg hf hn hb args ho ha (c.mono h)
theorem gq {N : Option Tmp} {K : Act → World → Prop} {f : FuncId} {fn : Func} {as : Array Operand} {ts : Array TypeId} {args : Array Value} {R : Ending → World → Prop} (hf : P.funcs[f]? = some fn) (c : Calls P f args W R)
    (h : ∀ e w', R e w' → ∃ v, e = .returned v ∧ K (a.put N v) w') (hw : Region.wanted o (yielded ops a.tmps) = true := by rfl) (hN : o.dst = N := by rfl)
    (hn : (fn.name == "runtime.NumGoroutine") = false := by kernel_rfl) (hb : fn.body.isSome = true := by rfl) (ho : o.op = .call { callee := .value (.func f), args := as, argTypes := ts } := by rfl) (ha : as.map a.eval = args := by exact ar) : if Region.wanted o (yielded ops a.tmps) = true then Oper.wp P o a W K Q else K (a.put N undef) W :=
  goes_ hf hn hb args hw hN ho ha (c.mono h)
theorem gg {N : Option Tmp} {K : Act → World → Prop} {f : FuncId} {fn : Func} {as : Array Operand} {ts : Array TypeId} (hf : P.funcs[f]? = some fn) (args : Array Value)
    (h : Calls P f args W fun e w' => ∃ v, e = .returned v ∧ K (a.put N v) w') (hw : Region.wanted o (yielded ops a.tmps) = true := by rfl) (hN : o.dst = N := by rfl)
    (hn : (fn.name == "runtime.NumGoroutine") = false := by kernel_rfl) (hb : fn.body.isSome = true := by rfl) (ho : o.op = .call { callee := .value (.func f), args := as, argTypes := ts } := by rfl) (ha : as.map a.eval = args := by exact ar) : if Region.wanted o (yielded ops a.tmps) = true then Oper.wp P o a W K Q else K (a.put N undef) W :=
  goes_ hf hn hb args hw hN ho ha h
theorem gl {f : FuncId} {fn : Func} {as : Array Operand} {ts : Array TypeId} (f' : FuncId) (hf : P.funcs[f]? = some fn) (N : Option Tmp) (args : Array Value)
    (h : Calls P f args W fun e w' => ∃ v, e = .returned v ∧ wpList P ops Q rest (a.put N v) w') (ho : o.op = .call { callee := .value (.func f), args := as, argTypes := ts } := by with_reducible rfl) (hd : o.dst = N := by rfl) (hg : o.guard = none := by rfl)
    (hn : (fn.name == "runtime.NumGoroutine") = false := by kernel_rfl) (hb : fn.body.isSome = true := by rfl) (ha : as.map a.eval = args := by exact ar) : wpList P ops Q (o :: rest) a W :=
  goesL_ N hd hg hf hn hb args ho ha h
end
/-! What is known, carried on. -/
section
variable {w w1 W : World} {g g' n t : Nat} {ob : Obj} {x : Addr} {u : Value}
theorem hs (k : Below W.heap.size W w1) (h : Below w.heap.size w W := by exact bw) : Aside0 (Below w.heap.size w w1) := ⟨below_step h k⟩
theorem hd (h : Aside0 (Below n w W)) : Aside0 (Below n w W.drew) := ⟨below_drew1 h.out⟩
theorem bd (h : Aside0 (W.heap[g]? = some ob)) : Aside0 (W.drew.heap[g]? = some ob) := ⟨blk_drew h.out⟩
theorem b_ (h : Aside0 (w.heap[g]? = some ob)) (k : Below W.heap.size W w1) (f : w.heap[g]? = some ob → W.heap[g]? = some ob := by (intro h_; (repeat (first | (with_reducible first | refine blk_drewN ?_ _ | refine blk_drew ?_ | refine blk_alloc ?_ _) | (with_reducible apply bfar; rotate_left; with_reducible assumption))); exact h_)) : Aside0 (w1.heap[g]? = some ob) := ⟨blk_below (f h.out) k⟩
theorem bq {cs cs1 : Array Value} (b : Aside0 (w.heap[g]? = some (.cells cs t (0, 0)))) (cs' : Array Value) (k : Below W.heap.size W w1) (f : w.heap[g]? = some (.cells cs t (0, 0)) → W.heap[g]? = some (.cells cs1 t (0, 0)) := by (intro h_; (repeat (first | (with_reducible first | refine blk_drewN ?_ _ | refine blk_drew ?_ | refine blk_alloc ?_ _ | apply blk_set) | (with_reducible apply bfar; rotate_left; with_reducible assumption))); exact h_)) (e : cs1 = cs' := by first | with_reducible rfl | (simp only [List.setIfInBounds_toArray, List.set_cons_zero, List.set_cons_succ]; done) | rfl) : Aside0 (w1.heap[g]? = some (.cells cs' t (0, 0))) := ⟨e ▸ blk_below (f b.out) k⟩
theorem bg {row : Option Nat} (h : Aside0 (w.heap[g]? = some ob)) (k : W.grownBy w1 row) (hne : some g ≠ row) (f : w.heap[g]? = some ob → W.heap[g]? = some ob := by (intro h_; (repeat (first | (with_reducible first | refine blk_drewN ?_ _ | refine blk_drew ?_ | refine blk_alloc ?_ _) | (with_reducible apply bfar; rotate_left; with_reducible assumption))); exact h_)) : Aside0 (w1.heap[g]? = some ob) := ⟨blk_grown (f h.out) k hne⟩
theorem nl (h : Aside0 (w.heap[g]? = some ob)) (e : g' = W.heap.size) (f : w.heap[g]? = some ob → W.heap[g]? = some ob := by (intro h_; (repeat (first | (with_reducible first | refine blk_drewN ?_ _ | refine blk_drew ?_ | refine blk_alloc ?_ _) | (with_reducible apply bfar; rotate_left; with_reducible assumption))); exact h_)) : Aside0 (g ≠ g') := ⟨by rw [e]; exact Nat.ne_of_lt (blk_lt (f h.out))⟩
theorem ng (h : Aside0 (w.heap[g]? = some ob)) (e : g' = W.heap.size) (f : w.heap[g]? = some ob → W.heap[g]? = some ob := by (intro h_; (repeat (first | (with_reducible first | refine blk_drewN ?_ _ | refine blk_drew ?_ | refine blk_alloc ?_ _) | (with_reducible apply bfar; rotate_left; with_reducible assumption))); exact h_)) : Aside0 (g' ≠ g) := ⟨by rw [e]; exact Nat.ne_of_gt (blk_lt (f h.out))⟩
theorem bz (e : g = W.heap.size) (h : Below w.heap.size w W := by exact bw) : Aside0 (w.heap.size ≤ g) := ⟨by rw [e]; exact below_size h⟩
theorem cl (h : Aside0 (Below w.heap.size w W)) (k : w.cell? x = some u) : W.cell? x = some u := (h.out.cell (World.block_lt_of_cell? w _ k)).trans k
theorem ri {k : IntKind} {A : Option Addr} {l : List Int} (r : Aside0 (Kd.C (Kd.int k) w A n l)) (h : Aside0 (Below w.heap.size w W)) (i : Int) (hp : decide (0 ≤ i) = true := by exact as_) (hq : decide (i < (n : Int)) = true := by exact as_) :
    ∃ ad, A = some ad ∧ w.cell? (ad.add i.toNat) = some (.int k (rd l i)) ∧ W.cell? (ad.add i.toNat) = some (.int k (rd l i)) ∧ (0 ≤ i) = True ∧ (i < (n : Int)) = True := by
  obtain ⟨ad, e, hx⟩ := Kd.at_int r.out i (of_decide_eq_true hp) (of_decide_eq_true hq)
  exact ⟨ad, e, hx, cl h hx, eq_true (of_decide_eq_true hp), eq_true (of_decide_eq_true hq)⟩
variable {v0 v1 v2 v3 v4 v5 v6 v7 v8 v9 v10 v11 : Value}
variable {cs_ : Array Value}
theorem ca1 (h : Aside0 (w.heap[g]? = some (.cells #[v0] t (0, 0)))) : w.cell? ⟨g, 0, none⟩ = some v0 := (blk_cell h.out 0).trans rfl
theorem ca2 (h : Aside0 (w.heap[g]? = some (.cells #[v0, v1] t (0, 0)))) : w.cell? ⟨g, 0, none⟩ = some v0 ∧ w.cell? ⟨g, 1, none⟩ = some v1 := ⟨(blk_cell h.out 0).trans rfl, (blk_cell h.out 1).trans rfl⟩
theorem ca3 (h : Aside0 (w.heap[g]? = some (.cells #[v0, v1, v2] t (0, 0)))) : w.cell? ⟨g, 0, none⟩ = some v0 ∧ w.cell? ⟨g, 1, none⟩ = some v1 ∧ w.cell? ⟨g, 2, none⟩ = some v2 := ⟨(blk_cell h.out 0).trans rfl, (blk_cell h.out 1).trans rfl, (blk_cell h.out 2).trans rfl⟩
theorem ca4 (h : Aside0 (w.heap[g]? = some (.cells #[v0, v1, v2, v3] t (0, 0)))) : w.cell? ⟨g, 0, none⟩ = some v0 ∧ w.cell? ⟨g, 1, none⟩ = some v1 ∧ w.cell? ⟨g, 2, none⟩ = some v2 ∧ w.cell? ⟨g, 3, none⟩ = some v3 := ⟨(blk_cell h.out 0).trans rfl, (blk_cell h.out 1).trans rfl, (blk_cell h.out 2).trans rfl, (blk_cell h.out 3).trans rfl⟩
theorem ca5 (h : Aside0 (w.heap[g]? = some (.cells #[v0, v1, v2, v3, v4] t (0, 0)))) : w.cell? ⟨g, 0, none⟩ = some v0 ∧ w.cell? ⟨g, 1, none⟩ = some v1 ∧ w.cell? ⟨g, 2, none⟩ = some v2 ∧ w.cell? ⟨g, 3, none⟩ = some v3 ∧ w.cell? ⟨g, 4, none⟩ = some v4 := ⟨(blk_cell h.out 0).trans rfl, (blk_cell h.out 1).trans rfl, (blk_cell h.out 2).trans rfl, (blk_cell h.out 3).trans rfl, (blk_cell h.out 4).trans rfl⟩
theorem ca6 (h : Aside0 (w.heap[g]? = some (.cells #[v0, v1, v2, v3, v4, v5] t (0, 0)))) : w.cell? ⟨g, 0, none⟩ = some v0 ∧ w.cell? ⟨g, 1, none⟩ = some v1 ∧ w.cell? ⟨g, 2, none⟩ = some v2 ∧ w.cell? ⟨g, 3, none⟩ = some v3 ∧ w.cell? ⟨g, 4, none⟩ = some v4 ∧ w.cell? ⟨g, 5, none⟩ = some v5 := ⟨(blk_cell h.out 0).trans rfl, (blk_cell h.out 1).trans rfl, (blk_cell h.out 2).trans rfl, (blk_cell h.out 3).trans rfl, (blk_cell h.out 4).trans rfl, (blk_cell h.out 5).trans rfl⟩
theorem ca7 (h : Aside0 (w.heap[g]? = some (.cells #[v0, v1, v2, v3, v4, v5, v6] t (0, 0)))) : w.cell? ⟨g, 0, none⟩ = some v0 ∧ w.cell? ⟨g, 1, none⟩ = some v1 ∧ w.cell? ⟨g, 2, none⟩ = some v2 ∧ w.cell? ⟨g, 3, none⟩ = some v3 ∧ w.cell? ⟨g, 4, none⟩ = some v4 ∧ w.cell? ⟨g, 5, none⟩ = some v5 ∧ w.cell? ⟨g, 6, none⟩ = some v6 := ⟨(blk_cell h.out 0).trans rfl, (blk_cell h.out 1).trans rfl, (blk_cell h.out 2).trans rfl, (blk_cell h.out 3).trans rfl, (blk_cell h.out 4).trans rfl, (blk_cell h.out 5).trans rfl, (blk_cell h.out 6).trans rfl⟩
theorem ca8 (h : Aside0 (w.heap[g]? = some (.cells #[v0, v1, v2, v3, v4, v5, v6, v7] t (0, 0)))) : w.cell? ⟨g, 0, none⟩ = some v0 ∧ w.cell? ⟨g, 1, none⟩ = some v1 ∧ w.cell? ⟨g, 2, none⟩ = some v2 ∧ w.cell? ⟨g, 3, none⟩ = some v3 ∧ w.cell? ⟨g, 4, none⟩ = some v4 ∧ w.cell? ⟨g, 5, none⟩ = some v5 ∧ w.cell? ⟨g, 6, none⟩ = some v6 ∧ w.cell? ⟨g, 7, none⟩ = some v7 := ⟨(blk_cell h.out 0).trans rfl, (blk_cell h.out 1).trans rfl, (blk_cell h.out 2).trans rfl, (blk_cell h.out 3).trans rfl, (blk_cell h.out 4).trans rfl, (blk_cell h.out 5).trans rfl, (blk_cell h.out 6).trans rfl, (blk_cell h.out 7).trans rfl⟩
theorem ca9 (h : Aside0 (w.heap[g]? = some (.cells #[v0, v1, v2, v3, v4, v5, v6, v7, v8] t (0, 0)))) : w.cell? ⟨g, 0, none⟩ = some v0 ∧ w.cell? ⟨g, 1, none⟩ = some v1 ∧ w.cell? ⟨g, 2, none⟩ = some v2 ∧ w.cell? ⟨g, 3, none⟩ = some v3 ∧ w.cell? ⟨g, 4, none⟩ = some v4 ∧ w.cell? ⟨g, 5, none⟩ = some v5 ∧ w.cell? ⟨g, 6, none⟩ = some v6 ∧ w.cell? ⟨g, 7, none⟩ = some v7 ∧ w.cell? ⟨g, 8, none⟩ = some v8 := ⟨(blk_cell h.out 0).trans rfl, (blk_cell h.out 1).trans rfl, (blk_cell h.out 2).trans rfl, (blk_cell h.out 3).trans rfl, (blk_cell h.out 4).trans rfl, (blk_cell h.out 5).trans rfl, (blk_cell h.out 6).trans rfl, (blk_cell h.out 7).trans rfl, (blk_cell h.out 8).trans rfl⟩
theorem ca10 (h : Aside0 (w.heap[g]? = some (.cells #[v0, v1, v2, v3, v4, v5, v6, v7, v8, v9] t (0, 0)))) : w.cell? ⟨g, 0, none⟩ = some v0 ∧ w.cell? ⟨g, 1, none⟩ = some v1 ∧ w.cell? ⟨g, 2, none⟩ = some v2 ∧ w.cell? ⟨g, 3, none⟩ = some v3 ∧ w.cell? ⟨g, 4, none⟩ = some v4 ∧ w.cell? ⟨g, 5, none⟩ = some v5 ∧ w.cell? ⟨g, 6, none⟩ = some v6 ∧ w.cell? ⟨g, 7, none⟩ = some v7 ∧ w.cell? ⟨g, 8, none⟩ = some v8 ∧ w.cell? ⟨g, 9, none⟩ = some v9 := ⟨(blk_cell h.out 0).trans rfl, (blk_cell h.out 1).trans rfl, (blk_cell h.out 2).trans rfl, (blk_cell h.out 3).trans rfl, (blk_cell h.out 4).trans rfl, (blk_cell h.out 5).trans rfl, (blk_cell h.out 6).trans rfl, (blk_cell h.out 7).trans rfl, (blk_cell h.out 8).trans rfl, (blk_cell h.out 9).trans rfl⟩
theorem ca11 (h : Aside0 (w.heap[g]? = some (.cells #[v0, v1, v2, v3, v4, v5, v6, v7, v8, v9, v10] t (0, 0)))) : w.cell? ⟨g, 0, none⟩ = some v0 ∧ w.cell? ⟨g, 1, none⟩ = some v1 ∧ w.cell? ⟨g, 2, none⟩ = some v2 ∧ w.cell? ⟨g, 3, none⟩ = some v3 ∧ w.cell? ⟨g, 4, none⟩ = some v4 ∧ w.cell? ⟨g, 5, none⟩ = some v5 ∧ w.cell? ⟨g, 6, none⟩ = some v6 ∧ w.cell? ⟨g, 7, none⟩ = some v7 ∧ w.cell? ⟨g, 8, none⟩ = some v8 ∧ w.cell? ⟨g, 9, none⟩ = some v9 ∧ w.cell? ⟨g, 10, none⟩ = some v10 := ⟨(blk_cell h.out 0).trans rfl, (blk_cell h.out 1).trans rfl, (blk_cell h.out 2).trans rfl, (blk_cell h.out 3).trans rfl, (blk_cell h.out 4).trans rfl, (blk_cell h.out 5).trans rfl, (blk_cell h.out 6).trans rfl, (blk_cell h.out 7).trans rfl, (blk_cell h.out 8).trans rfl, (blk_cell h.out 9).trans rfl, (blk_cell h.out 10).trans rfl⟩
theorem ca12 (h : Aside0 (w.heap[g]? = some (.cells #[v0, v1, v2, v3, v4, v5, v6, v7, v8, v9, v10, v11] t (0, 0)))) : w.cell? ⟨g, 0, none⟩ = some v0 ∧ w.cell? ⟨g, 1, none⟩ = some v1 ∧ w.cell? ⟨g, 2, none⟩ = some v2 ∧ w.cell? ⟨g, 3, none⟩ = some v3 ∧ w.cell? ⟨g, 4, none⟩ = some v4 ∧ w.cell? ⟨g, 5, none⟩ = some v5 ∧ w.cell? ⟨g, 6, none⟩ = some v6 ∧ w.cell? ⟨g, 7, none⟩ = some v7 ∧ w.cell? ⟨g, 8, none⟩ = some v8 ∧ w.cell? ⟨g, 9, none⟩ = some v9 ∧ w.cell? ⟨g, 10, none⟩ = some v10 ∧ w.cell? ⟨g, 11, none⟩ = some v11 := ⟨(blk_cell h.out 0).trans rfl, (blk_cell h.out 1).trans rfl, (blk_cell h.out 2).trans rfl, (blk_cell h.out 3).trans rfl, (blk_cell h.out 4).trans rfl, (blk_cell h.out 5).trans rfl, (blk_cell h.out 6).trans rfl, (blk_cell h.out 7).trans rfl, (blk_cell h.out 8).trans rfl, (blk_cell h.out 9).trans rfl, (blk_cell h.out 10).trans rfl, (blk_cell h.out 11).trans rfl⟩
theorem fa2 (h : Aside0 (w.heap[g]? = some (.cells cs_ t (0, 0)))) : w.frozen? ⟨g, 0, none⟩ = false ∧ w.frozen? ⟨g, 1, none⟩ = false := ⟨blk_frozen h.out 0, blk_frozen h.out 1⟩
theorem fa3 (h : Aside0 (w.heap[g]? = some (.cells cs_ t (0, 0)))) : w.frozen? ⟨g, 0, none⟩ = false ∧ w.frozen? ⟨g, 1, none⟩ = false ∧ w.frozen? ⟨g, 2, none⟩ = false := ⟨blk_frozen h.out 0, blk_frozen h.out 1, blk_frozen h.out 2⟩
theorem fa4 (h : Aside0 (w.heap[g]? = some (.cells cs_ t (0, 0)))) : w.frozen? ⟨g, 0, none⟩ = false ∧ w.frozen? ⟨g, 1, none⟩ = false ∧ w.frozen? ⟨g, 2, none⟩ = false ∧ w.frozen? ⟨g, 3, none⟩ = false := ⟨blk_frozen h.out 0, blk_frozen h.out 1, blk_frozen h.out 2, blk_frozen h.out 3⟩
theorem fa5 (h : Aside0 (w.heap[g]? = some (.cells cs_ t (0, 0)))) : w.frozen? ⟨g, 0, none⟩ = false ∧ w.frozen? ⟨g, 1, none⟩ = false ∧ w.frozen? ⟨g, 2, none⟩ = false ∧ w.frozen? ⟨g, 3, none⟩ = false ∧ w.frozen? ⟨g, 4, none⟩ = false := ⟨blk_frozen h.out 0, blk_frozen h.out 1, blk_frozen h.out 2, blk_frozen h.out 3, blk_frozen h.out 4⟩
theorem fa6 (h : Aside0 (w.heap[g]? = some (.cells cs_ t (0, 0)))) : w.frozen? ⟨g, 0, none⟩ = false ∧ w.frozen? ⟨g, 1, none⟩ = false ∧ w.frozen? ⟨g, 2, none⟩ = false ∧ w.frozen? ⟨g, 3, none⟩ = false ∧ w.frozen? ⟨g, 4, none⟩ = false ∧ w.frozen? ⟨g, 5, none⟩ = false := ⟨blk_frozen h.out 0, blk_frozen h.out 1, blk_frozen h.out 2, blk_frozen h.out 3, blk_frozen h.out 4, blk_frozen h.out 5⟩
theorem fa7 (h : Aside0 (w.heap[g]? = some (.cells cs_ t (0, 0)))) : w.frozen? ⟨g, 0, none⟩ = false ∧ w.frozen? ⟨g, 1, none⟩ = false ∧ w.frozen? ⟨g, 2, none⟩ = false ∧ w.frozen? ⟨g, 3, none⟩ = false ∧ w.frozen? ⟨g, 4, none⟩ = false ∧ w.frozen? ⟨g, 5, none⟩ = false ∧ w.frozen? ⟨g, 6, none⟩ = false := ⟨blk_frozen h.out 0, blk_frozen h.out 1, blk_frozen h.out 2, blk_frozen h.out 3, blk_frozen h.out 4, blk_frozen h.out 5, blk_frozen h.out 6⟩
theorem fa8 (h : Aside0 (w.heap[g]? = some (.cells cs_ t (0, 0)))) : w.frozen? ⟨g, 0, none⟩ = false ∧ w.frozen? ⟨g, 1, none⟩ = false ∧ w.frozen? ⟨g, 2, none⟩ = false ∧ w.frozen? ⟨g, 3, none⟩ = false ∧ w.frozen? ⟨g, 4, none⟩ = false ∧ w.frozen? ⟨g, 5, none⟩ = false ∧ w.frozen? ⟨g, 6, none⟩ = false ∧ w.frozen? ⟨g, 7, none⟩ = false := ⟨blk_frozen h.out 0, blk_frozen h.out 1, blk_frozen h.out 2, blk_frozen h.out 3, blk_frozen h.out 4, blk_frozen h.out 5, blk_frozen h.out 6, blk_frozen h.out 7⟩
theorem fa9 (h : Aside0 (w.heap[g]? = some (.cells cs_ t (0, 0)))) : w.frozen? ⟨g, 0, none⟩ = false ∧ w.frozen? ⟨g, 1, none⟩ = false ∧ w.frozen? ⟨g, 2, none⟩ = false ∧ w.frozen? ⟨g, 3, none⟩ = false ∧ w.frozen? ⟨g, 4, none⟩ = false ∧ w.frozen? ⟨g, 5, none⟩ = false ∧ w.frozen? ⟨g, 6, none⟩ = false ∧ w.frozen? ⟨g, 7, none⟩ = false ∧ w.frozen? ⟨g, 8, none⟩ = false := ⟨blk_frozen h.out 0, blk_frozen h.out 1, blk_frozen h.out 2, blk_frozen h.out 3, blk_frozen h.out 4, blk_frozen h.out 5, blk_frozen h.out 6, blk_frozen h.out 7, blk_frozen h.out 8⟩
theorem fa10 (h : Aside0 (w.heap[g]? = some (.cells cs_ t (0, 0)))) : w.frozen? ⟨g, 0, none⟩ = false ∧ w.frozen? ⟨g, 1, none⟩ = false ∧ w.frozen? ⟨g, 2, none⟩ = false ∧ w.frozen? ⟨g, 3, none⟩ = false ∧ w.frozen? ⟨g, 4, none⟩ = false ∧ w.frozen? ⟨g, 5, none⟩ = false ∧ w.frozen? ⟨g, 6, none⟩ = false ∧ w.frozen? ⟨g, 7, none⟩ = false ∧ w.frozen? ⟨g, 8, none⟩ = false ∧ w.frozen? ⟨g, 9, none⟩ = false := ⟨blk_frozen h.out 0, blk_frozen h.out 1, blk_frozen h.out 2, blk_frozen h.out 3, blk_frozen h.out 4, blk_frozen h.out 5, blk_frozen h.out 6, blk_frozen h.out 7, blk_frozen h.out 8, blk_frozen h.out 9⟩
theorem fa11 (h : Aside0 (w.heap[g]? = some (.cells cs_ t (0, 0)))) : w.frozen? ⟨g, 0, none⟩ = false ∧ w.frozen? ⟨g, 1, none⟩ = false ∧ w.frozen? ⟨g, 2, none⟩ = false ∧ w.frozen? ⟨g, 3, none⟩ = false ∧ w.frozen? ⟨g, 4, none⟩ = false ∧ w.frozen? ⟨g, 5, none⟩ = false ∧ w.frozen? ⟨g, 6, none⟩ = false ∧ w.frozen? ⟨g, 7, none⟩ = false ∧ w.frozen? ⟨g, 8, none⟩ = false ∧ w.frozen? ⟨g, 9, none⟩ = false ∧ w.frozen? ⟨g, 10, none⟩ = false := ⟨blk_frozen h.out 0, blk_frozen h.out 1, blk_frozen h.out 2, blk_frozen h.out 3, blk_frozen h.out 4, blk_frozen h.out 5, blk_frozen h.out 6, blk_frozen h.out 7, blk_frozen h.out 8, blk_frozen h.out 9, blk_frozen h.out 10⟩
theorem fa12 (h : Aside0 (w.heap[g]? = some (.cells cs_ t (0, 0)))) : w.frozen? ⟨g, 0, none⟩ = false ∧ w.frozen? ⟨g, 1, none⟩ = false ∧ w.frozen? ⟨g, 2, none⟩ = false ∧ w.frozen? ⟨g, 3, none⟩ = false ∧ w.frozen? ⟨g, 4, none⟩ = false ∧ w.frozen? ⟨g, 5, none⟩ = false ∧ w.frozen? ⟨g, 6, none⟩ = false ∧ w.frozen? ⟨g, 7, none⟩ = false ∧ w.frozen? ⟨g, 8, none⟩ = false ∧ w.frozen? ⟨g, 9, none⟩ = false ∧ w.frozen? ⟨g, 10, none⟩ = false ∧ w.frozen? ⟨g, 11, none⟩ = false := ⟨blk_frozen h.out 0, blk_frozen h.out 1, blk_frozen h.out 2, blk_frozen h.out 3, blk_frozen h.out 4, blk_frozen h.out 5, blk_frozen h.out 6, blk_frozen h.out 7, blk_frozen h.out 8, blk_frozen h.out 9, blk_frozen h.out 10, blk_frozen h.out 11⟩
end
/-! The cases of an answer. -/
section
variable {α β : Type} {x y : Option α} {r : α}
theorem ieq {a b : Int} (h : (if a = b then x else y) = some r) : ((a == b) = true ∧ (a != b) = false ∧ x = some r) ∨ (¬ a = b ∧ (a == b) = false ∧ (a != b) = true ∧ y = some r) := by
  by_cases c : a = b
  · rw [if_pos c] at h; exact .inl ⟨beq_iff_eq.mpr c, bne_eq_false_iff_eq.mpr c, h⟩
  · rw [if_neg c] at h; exact .inr ⟨c, beq_eq_false_iff_ne.mpr c, bne_iff_ne.mpr c, h⟩
theorem ilt {a b : Int} (h : (if a < b then x else y) = some r) : (decide (a < b) = true ∧ x = some r) ∨ (decide (a < b) = false ∧ y = some r) := by
  by_cases k : a < b
  · rw [if_pos k] at h; exact .inl ⟨decide_eq_true k, h⟩
  · rw [if_neg k] at h; exact .inr ⟨decide_eq_false k, h⟩
theorem ile {a b : Int} (h : (if a ≤ b then x else y) = some r) : (decide (a ≤ b) = true ∧ x = some r) ∨ (decide (a ≤ b) = false ∧ y = some r) := by
  by_cases k : a ≤ b
  · rw [if_pos k] at h; exact .inl ⟨decide_eq_true k, h⟩
  · rw [if_neg k] at h; exact .inr ⟨decide_eq_false k, h⟩
theorem igt {a b : Int} (h : (if a > b then x else y) = some r) : (decide (b < a) = true ∧ x = some r) ∨ (decide (b < a) = false ∧ y = some r) := ilt h
theorem ige {a b : Int} (h : (if a ≥ b then x else y) = some r) : (decide (b ≤ a) = true ∧ x = some r) ∨ (decide (b ≤ a) = false ∧ y = some r) := ile h
theorem ib {t : Bool} (h : (if t = true then x else y) = some r) : (t = true ∧ x = some r) ∨ (t = false ∧ y = some r) := by
  cases t <;> simpa using h
theorem bn {f : β → Option α} {z : Option β} (h : z.bind f = some r) : ∃ t, Aside0 (z = some t) ∧ f t = some r := by
  obtain ⟨t, h1, h2⟩ := Option.bind_eq_some_iff.mp h
  exact ⟨t, ⟨h1⟩, h2⟩
end
end Go.Proofs.YtobboonnfocalaaGreatDoor.T
