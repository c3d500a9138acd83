/- Arguments of any shape (whole numbers, structs, slices of these) that the row's reading takes are told by the kinds of the printed words: their cells and their elements. Conditions: none. -/
import Derived.Test.YtobboonnfocalaaGreatDoorVG10
import Derived.ChangeArms
import Derived.WideShapes
import Derived.ChangeShapes
set_option linter.unusedVariables false
namespace Go.Proofs.YtobboonnfocalaaGreatDoor.Opn
open Go.RowKit Go.WideShapes Go.ChangeShapes Go.Proofs.YtobboonnfocalaaGreatDoorW.PrintWords

/-- What reads as data at type t is of kind k, and well formed. -/
structure Opn (P : Program) (t : TypeId) {α : Type} (k : Kd α) (wf : α → Prop) : Prop where
  sz : P.cellsOf t = k.sz
  get : ∀ {H : Type} (enc : TypeId × Value → H) (w : World) (base : Nat) (spare : Nat → Bool) (held : Bool) (n : Nat) (cs : List Value) (x : DataW H × List MemPlace),
    DataW.trod enc P w base spare held n t cs = some x → ∃ a, k.K w a cs ∧ wf a

theorem Opn.int {P : Program} {t : TypeId} {ik : IntKind} (ht : P.underlying t = some (.int ik)) (hc : P.cellsOf t = 1) : Opn P t (Kd.int ik) (fun n => (Lit.int ik n).wf = true) := by
  refine ⟨hc, fun enc w base spare held n cs x h => ?_⟩
  obtain ⟨m, rfl, _, hw⟩ := DataW.trod_int ht h
  exact ⟨m, rfl, hw⟩

theorem Opn.bool {P : Program} {t : TypeId} (ht : P.underlying t = some .bool) (hc : P.cellsOf t = 1) : Opn P t Kd.bool (fun _ => True) := by
  refine ⟨hc, fun enc w base spare held n cs x h => ?_⟩
  obtain ⟨m, rfl, _⟩ := DataW.trod_bool ht h
  exact ⟨m, rfl, trivial⟩

theorem Opn.iso {P : Program} {t : TypeId} {α β : Type} {k : Kd α} {wf : α → Prop} {f : β → α} (g : α → β) (hfg : ∀ a, f (g a) = a) (h : Opn P t k wf) : Opn P t (Kd.iso k f) (fun b => wf (f b)) := by
  refine ⟨h.sz, fun enc w base spare held n cs x hx => ?_⟩
  obtain ⟨a, hk, hw⟩ := h.get enc w base spare held n cs x hx
  exact ⟨g a, by show k.K w (f (g a)) cs; rw [hfg]; exact hk, by show wf (f (g a)); rw [hfg]; exact hw⟩

theorem chosen {α : Type} {p : Nat → α → Prop} : ∀ n, (∀ i, i < n → ∃ a, p i a) → ∃ xs : List α, xs.length = n ∧ ∀ i a, xs[i]? = some a → p i a
  | 0, _ => ⟨[], rfl, fun i a h => by simp at h⟩
  | n + 1, h => by
    obtain ⟨xs, hl, hx⟩ := chosen n (fun i hi => h i (Nat.lt_succ_of_lt hi))
    obtain ⟨a, ha⟩ := h n (Nat.lt_succ_self n)
    refine ⟨xs ++ [a], by simp [hl], fun i b hb => ?_⟩
    rcases Nat.lt_or_ge i xs.length with hi | hi
    · rw [List.getElem?_append_left hi] at hb
      exact hx i b hb
    · have hi' := (List.getElem?_eq_some_iff.1 hb).1
      simp at hi'
      obtain rfl : i = n := by omega
      rw [← hl] at hb
      simp at hb
      subst hb
      exact ha

theorem Opn.slice {P : Program} {t e : TypeId} {α : Type} {k : Kd α} {wf : α → Prop} (ht : P.underlying t = some (.slice e)) (hc : P.cellsOf t = 1) (h : Opn P e k wf) : Opn P t (Kd.slice e k) (fun xs => xs.length ≤ 9223372036854775807 ∧ ∀ x ∈ xs, wf x) := by
  refine ⟨hc, fun enc w base spare held n cs x hx => ?_⟩
  rcases DataW.trod_slice ht hx with ⟨rfl, _⟩ | ⟨a, len, cap, elems, rest, m, _, rfl, _, _, hl, hm, hel, he, _, _⟩
  · exact ⟨[], ⟨none, 0, rfl, Nat.le_refl _, rfl, by simp, fun h0 => absurd h0 (by simp)⟩, by simp, fun x hx => by simp at hx⟩
  · have one : ∀ i, i < len → ∃ b : α, (∃ c, c.length = k.sz ∧ k.K w b c ∧ ∀ j u, c[j]? = some u → w.cell? (a.add (i * k.sz + j)) = some u) ∧ wf b := by
      intro i hi
      have h1 := he i hi
      rw [List.getElem?_eq_getElem (by omega)] at h1
      obtain ⟨c, h2, h3⟩ := Option.bind_eq_some_iff.1 h1
      obtain ⟨b, hk, hw⟩ := h.get enc w base spare held m c _ h3
      obtain ⟨_, hcl, hcell⟩ := World.cells?_some h2
      have hsz := k.K_len hk
      refine ⟨b, ⟨c, hsz, hk, fun j u hu => ?_⟩, hw⟩
      have hj := (List.getElem?_eq_some_iff.1 hu).1
      have h4 := hcell j (by omega)
      have ha : (a.add (i * k.sz)).add j = a.add (i * k.sz + j) := by
        unfold Addr.add
        by_cases h1 : i * k.sz = 0 <;> by_cases h2 : j = 0 <;> simp [h1, h2, Nat.add_assoc]
      rw [h.sz, ha] at h4
      exact h4.trans hu
    obtain ⟨xs, hxl, hxs⟩ := chosen len one
    refine ⟨xs, ⟨some a, cap, by rw [hxl], by omega, rfl, by rw [hxl]; simp only [maxLen] at hm; omega, fun _ => ⟨a, rfl, fun j p hp => (hxs j p hp).1⟩⟩, by rw [hxl]; simp only [maxLen] at hm; omega, fun x hx => ?_⟩
    obtain ⟨i, hi, rfl⟩ := List.getElem_of_mem hx
    exact (hxs i _ (List.getElem?_eq_getElem hi)).2

/-- The fields from offset o on. -/
structure OpnF (P : Program) (fs : List Field) (o : Nat) {α : Type} (k : Kd α) (wf : α → Prop) : Prop where
  get : ∀ {H : Type} (enc : TypeId × Value → H) (w : World) (base : Nat) (spare : Nat → Bool) (held : Bool) (n : Nat) (cs : List Value), cs.length = o + k.sz →
    (∀ f ∈ fs, ∃ y, DataW.trod enc P w base spare held n f.type ((cs.drop f.offset).take (P.cellsOf f.type)) = some y) → ∃ a, k.K w a (cs.drop o) ∧ wf a

theorem OpnF.one {P : Program} {f : Field} {o : Nat} {α : Type} {k : Kd α} {wf : α → Prop} (ho : f.offset = o) (h : Opn P f.type k wf) : OpnF P [f] o k wf := by
  refine ⟨fun enc w base spare held n cs hl hf => ?_⟩
  obtain ⟨y, hy⟩ := hf f (by simp)
  obtain ⟨a, hk, hw⟩ := h.get enc w base spare held n _ y hy
  refine ⟨a, ?_, hw⟩
  rw [ho, h.sz, List.take_of_length_le (by rw [List.length_drop]; omega)] at hk
  exact hk

theorem OpnF.cons {P : Program} {f : Field} {fs : List Field} {o o' : Nat} {α β : Type} {k1 : Kd α} {k2 : Kd β} {wf1 : α → Prop} {wf2 : β → Prop} (ho : f.offset = o) (h : Opn P f.type k1 wf1) (ho' : o' = o + k1.sz) (h2 : OpnF P fs o' k2 wf2) : OpnF P (f :: fs) o (Kd.pair k1 k2) (fun x => wf1 x.1 ∧ wf2 x.2) := by
  refine ⟨fun enc w base spare held n cs hl hf => ?_⟩
  have hl' : cs.length = o + (k1.sz + k2.sz) := hl
  obtain ⟨y, hy⟩ := hf f (by simp)
  obtain ⟨a, hk, hw⟩ := h.get enc w base spare held n _ y hy
  obtain ⟨b, hk2, hw2⟩ := h2.get enc w base spare held n cs (by omega) (fun g hg => hf g (by simp [hg]))
  refine ⟨(a, b), ⟨_, _, ?_, hk, hk2⟩, hw, hw2⟩
  rw [ho, h.sz, ho']
  conv => lhs; rw [← List.take_append_drop k1.sz (cs.drop o)]
  rw [List.drop_drop]

theorem Opn.struct {P : Program} {t : TypeId} {fs : List Field} {α : Type} {k : Kd α} {wf : α → Prop} (ht : P.underlying t = some (.struct fs.toArray)) (hc : P.cellsOf t = k.sz) (h : OpnF P fs 0 k wf) : Opn P t k wf := by
  refine ⟨hc, fun enc w base spare held n cs x hx => ?_⟩
  obtain ⟨xs, m, _, _, hl, hxl, hf⟩ := DataW.trod_struct ht hx
  obtain ⟨a, hk, hw⟩ := h.get enc w base spare held m cs (by rw [hl, hc]; omega) (fun f hf' => by
    obtain ⟨i, hi, rfl⟩ := List.getElem_of_mem hf'
    have h1 := hf i _ (by rw [List.getElem?_toArray]; exact List.getElem?_eq_getElem hi)
    have h2 : i < xs.length := by rw [hxl]; simpa using hi
    rw [List.getElem?_eq_getElem h2] at h1
    exact ⟨_, h1⟩)
  exact ⟨a, by simpa using hk, hw⟩

/-- An argument of a struct type: its cells. -/
theorem struct_arg {H : Type} {enc : TypeId × Value → H} {P : Program} {W : World} {r : Reach} {base b : Nat} {spare : Nat → Bool} {held : Bool} {t : TypeId} {fs : Array Field} {α : Type} {k : Kd α} {wf : α → Prop} {v : Value} {d : DataW H} {p : List MemPlace}
    (ht : P.underlying t = some (.struct fs)) (ho : Opn P t k wf) (hv : Value.okWide P W r base t v) (h : DataW.Trod enc P W b spare held t v d p) : ∃ cs a, v = .agg cs ∧ k.K W a cs.toList ∧ wf a := by
  obtain ⟨cs, rfl, _⟩ := okWide_struct ht hv
  obtain ⟨n, hn⟩ := h
  obtain ⟨a, hk, hw⟩ := ho.get enc W b spare held n _ _ hn
  exact ⟨cs, a, rfl, by simpa [Value.cells] using hk, hw⟩
/-- An argument of a slice type. -/
theorem slice_arg {H : Type} {enc : TypeId × Value → H} {P : Program} {W : World} {r : Reach} {base b : Nat} {spare : Nat → Bool} {held : Bool} {t e : TypeId} {α : Type} {k : Kd α} {wf : List α → Prop} {v : Value} {d : DataW H} {p : List MemPlace}
    (ht : P.underlying t = some (.slice e)) (ho : Opn P t (Kd.slice e k) wf) (hv : Value.okWide P W r base t v) (h : DataW.Trod enc P W b spare held t v d p) : ∃ A c xs, v = .slice A xs.length c ∧ xs.length ≤ c ∧ k.C W A xs.length xs ∧ wf xs := by
  obtain ⟨a0, len0, cap0, rfl⟩ := okWide_slice ht hv
  obtain ⟨n, hn⟩ := h
  obtain ⟨a, ⟨A, c, hcs, hl, hC⟩, hw⟩ := ho.get enc W b spare held n _ _ hn
  exact ⟨A, c, a, by simpa [Value.cells] using hcs, hl, hC, hw⟩
end Go.Proofs.YtobboonnfocalaaGreatDoor.Opn
