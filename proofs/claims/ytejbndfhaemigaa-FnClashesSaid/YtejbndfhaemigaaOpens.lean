/- How plain data that a law is handed is read as the printed texts want it: kind by kind, each for every program and memory. -/
import Derived.Test.YtejbndfhaemigaaWWords
import Derived.Deep.Slices
import Derived.ChangeArms
import Derived.Laws.Cover2
import Derived.Laws.FloatArith
import Derived.OpenShut
namespace Go.Proofs.Ytejbndfhaemigaa.Own
open Go.RowKit Go.Proofs.YtejbndfhaemigaaW.PrintWords

class StepsTo (W V : World) : Prop where
  out : Below W.heap.size W V
section
variable {W V : World}
instance StepsTo.refl_ : StepsTo W W := ⟨Below.refl _ _⟩
instance StepsTo.alloc_ [h : StepsTo W V] (o : Obj) : StepsTo W (V.alloc o) := ⟨below_alloc h.out o⟩
instance StepsTo.drewN_ [h : StepsTo W V] (n : Nat) : StepsTo W (V.drewN n) := ⟨pw_below_drewN h.out n⟩
instance StepsTo.drew_ [h : StepsTo W V] : StepsTo W V.drew := ⟨below_drew1 h.out⟩
theorem rS {α : Type} {d : Kd α} {e base : Nat} {ok : Nat → Prop} {v : Value} {xs : List α} (h : Kd.R d e W base ok v xs) [k : StepsTo W V] : Kd.R d e V base ok v xs := Kd.R_below h k.out
theorem cS {α : Type} {d : Kd α} {A : Option Addr} {n : Nat} {xs : List α} (h : Kd.C d W A n xs) [k : StepsTo W V] : Kd.C d V A n xs := Kd.C_below h k.out
theorem bS {w : World} (h : Below w.heap.size w W) [k : StepsTo W V] : Below w.heap.size w V := below_step h k.out
end
class StepsBut (g : Nat) (W V : World) : Prop where
  out : KeepBut W V g none
section
variable {W V : World} {g : Nat}
instance StepsBut.refl_ : StepsBut g W W := ⟨KeepBut.refl _ _ _⟩
instance StepsBut.set_ [h : StepsBut g W V] (j : Nat) (u : Value) : StepsBut g W (V.setCell ⟨g, j, none⟩ u) := ⟨h.out.set_ j u⟩
instance StepsBut.alloc_ [h : StepsBut g W V] (o : Obj) : StepsBut g W (V.alloc o) := ⟨h.out.trans (KeepBut.of_below (below_alloc (Below.refl _ _) o) g none) (.inl rfl)⟩
instance StepsBut.drewN_ [h : StepsBut g W V] (n : Nat) : StepsBut g W (V.drewN n) := ⟨h.out.trans (KeepBut.of_below (pw_below_drewN (Below.refl _ _) n) g none) (.inl rfl)⟩
instance StepsBut.drew_ [h : StepsBut g W V] : StepsBut g W V.drew := ⟨h.out.trans (KeepBut.of_below (below_drew1 (Below.refl _ _)) g none) (.inl rfl)⟩
theorem rB {α : Type} {d : Kd α} {e base t : Nat} {cs : Array Value} {ok : Nat → Prop} {v : Value} {xs : List α} (h : Kd.R d e W base ok v xs) (hb : W.heap[g]? = some (.cells cs t (0, 0))) (ht : ∀ q, q ∈ e :: d.E → q ≠ t) [k : StepsBut g W V] : Kd.R d e V base ok v xs :=
  Kd.R_mono (Kd.R_step (Kd.R_types h hb ht) (fun i ho hlt => k.out.2 i hlt ho.2 (by simp))) (fun _ h => h.1)
end

-- short names for steps that laws take often
section
variable {α β : Type} {d : Kd α} {d' : Kd β} {e e' base base' N : Nat} {ok ok' : Nat → Prop} {W W0 w1 w2 : World} {u v : Value} {xs : List α} {ys : List β}
theorem rN (h : Kd.R d e w1 W.heap.size ok v xs) (H : Kd.R d' e' W0 base' ok' u ys) [k : StepsTo W0 W] : Kd.R d e w1 W.heap.size (fun k => ok k ∧ some k ≠ u.ownBlock) v xs := Kd.R_new' h (Kd.R_lt (rS H))
theorem rT (h : Kd.R d e w1 base (fun k => ok k ∧ k < N) u xs) (H : Kd.R d' e' w2 N ok' v ys) : Kd.R d e w1 base (fun k => (ok k ∧ some k ≠ v.ownBlock) ∧ k < N) u xs :=
  Kd.R_mono h (fun k hk => ⟨⟨hk.1, fun q => Nat.lt_irrefl _ (Nat.lt_of_lt_of_le hk.2 (Kd.R_base H k q.symm))⟩, hk.2⟩)
theorem kS {g : Nat} {o : Obj} (h : W0.heap[g]? = some o) [k : StepsTo W0 W] (hb : Below W.heap.size W w1) : w1.heap[g]? = some o := blk_below (blk_below h k.out) hb
theorem kC {g : Nat} {t : TypeId} {cs : Array Value} {r : Option Value} (h : W.heap[g]? = some (.cells cs t (0, 0))) (i : Nat) (hr : cs[i]? = r) : W.cell? ⟨g, i, none⟩ = r := (blk_cell h i).trans hr
theorem kc10 {g : Nat} {t : TypeId} {c0 c1 c2 c3 c4 c5 c6 c7 c8 c9 : Value} (h : W.heap[g]? = some (.cells #[c0, c1, c2, c3, c4, c5, c6, c7, c8, c9] t (0, 0))) : W.cell? ⟨g, 0, none⟩ = some c0 ∧ W.cell? ⟨g, 1, none⟩ = some c1 ∧ W.cell? ⟨g, 2, none⟩ = some c2 ∧ W.cell? ⟨g, 3, none⟩ = some c3 ∧ W.cell? ⟨g, 4, none⟩ = some c4 ∧ W.cell? ⟨g, 5, none⟩ = some c5 ∧ W.cell? ⟨g, 6, none⟩ = some c6 ∧ W.cell? ⟨g, 7, none⟩ = some c7 ∧ W.cell? ⟨g, 8, none⟩ = some c8 ∧ W.cell? ⟨g, 9, none⟩ = some c9 :=
  ⟨kC h 0 rfl, kC h 1 rfl, kC h 2 rfl, kC h 3 rfl, kC h 4 rfl, kC h 5 rfl, kC h 6 rfl, kC h 7 rfl, kC h 8 rfl, kC h 9 rfl⟩
theorem kf10 {g : Nat} {t : TypeId} {cs : Array Value} (h : W.heap[g]? = some (.cells cs t (0, 0))) : W.frozen? ⟨g, 0, none⟩ = false ∧ W.frozen? ⟨g, 1, none⟩ = false ∧ W.frozen? ⟨g, 2, none⟩ = false ∧ W.frozen? ⟨g, 3, none⟩ = false ∧ W.frozen? ⟨g, 4, none⟩ = false ∧ W.frozen? ⟨g, 5, none⟩ = false ∧ W.frozen? ⟨g, 6, none⟩ = false ∧ W.frozen? ⟨g, 7, none⟩ = false ∧ W.frozen? ⟨g, 8, none⟩ = false ∧ W.frozen? ⟨g, 9, none⟩ = false :=
  ⟨blk_frozen h 0, blk_frozen h 1, blk_frozen h 2, blk_frozen h 3, blk_frozen h 4, blk_frozen h 5, blk_frozen h 6, blk_frozen h 7, blk_frozen h 8, blk_frozen h 9⟩
end

structure Opens (P : Program) (t : TypeId) {α : Type} (d : Kd α) (good : α → Prop) : Prop where
  size : P.cellsOf t = d.sz
  out : ∀ {H : Type} {enc : TypeId × Value → H} {w : World} {fuel : Nat} {cs : List Value} {x : DataW H × List MemPlace},
    DataW.trod enc P w 0 (fun _ => true) true fuel t cs = some x → ∃ a, d.K w a cs ∧ good a

variable {P : Program} {t e : TypeId}

theorem Opens.int {k : IntKind} (ht : P.underlying t = some (.int k)) (hc : P.cellsOf t = 1) : Opens P t (Kd.int k) (fun n => (Lit.int k n).wf = true) :=
  ⟨hc, fun h => by
    obtain ⟨n, rfl, _, hw⟩ := DataW.trod_int ht h
    exact ⟨n, rfl, hw⟩⟩

theorem Opens.bool (ht : P.underlying t = some .bool) (hc : P.cellsOf t = 1) : Opens P t Kd.bool (fun _ => True) :=
  ⟨hc, fun h => by
    obtain ⟨n, rfl, _⟩ := DataW.trod_bool ht h
    exact ⟨n, rfl, trivial⟩⟩

theorem Opens.slice {α : Type} {d : Kd α} {good : α → Prop} (ht : P.underlying t = some (.slice e)) (hc : P.cellsOf t = 1) (he : Opens P e d good) :
    Opens P t (Kd.slice e d) (fun xs => xs.length ≤ maxLen ∧ ∀ x ∈ xs, good x) :=
  ⟨hc, @fun H enc w fuel cs x h => by
    rcases Deep.open_slice ht h with ⟨rfl, _⟩ | ⟨a, len, cap, m, n, D, Pl, rfl, hb0, hl, hm, hmm, hxe, hx⟩
    · exact ⟨[], ⟨none, 0, rfl, Nat.le_refl _, rfl, by simp, fun h => absurd h (by simp)⟩, by simp [maxLen], by simp⟩
    · have hle : len ≤ m := by subst hmm; simpa using hl
      have each : ∀ i, i < len → ∃ y : α, good y ∧ ∃ c, c.length = d.sz ∧ d.K w y c ∧ ∀ j u, c[j]? = some u → w.cell? (a.add (i * d.sz + j)) = some u := by
        intro i hi
        obtain ⟨cs', h1, h2⟩ := hx i (by omega)
        obtain ⟨y, hk, hg⟩ := he.out h2
        rw [he.size] at h1
        obtain ⟨_, hlen, hcell⟩ := World.cells?_some h1
        refine ⟨y, hg, cs', hlen, hk, fun j u hu => ?_⟩
        have hj : j < d.sz := by
          have := (List.getElem?_eq_some_iff.1 hu).1
          omega
        have h3 := hcell j hj
        rw [hu] at h3
        rw [← h3]
        congr 1
        simp only [Addr.add]
        by_cases e1 : i * d.sz = 0 <;> by_cases e2 : j = 0 <;> simp [e1, e2, Nat.add_assoc]
      have hY : ∃ ys : List α, ys.length = len ∧ ∀ i y, ys[i]? = some y → good y ∧ ∃ c, c.length = d.sz ∧ d.K w y c ∧ ∀ j u, c[j]? = some u → w.cell? (a.add (i * d.sz + j)) = some u := by
        clear hx hle h hmm hl hm hxe hb0
        induction len with
        | zero => exact ⟨[], rfl, fun i y h => by simp at h⟩
        | succ q ih =>
          obtain ⟨ys, hy1, hy2⟩ := ih (fun i hi => each i (by omega))
          obtain ⟨y, hy⟩ := each q (by omega)
          refine ⟨ys ++ [y], by simp [hy1], fun i z hz => ?_⟩
          by_cases hi : i < ys.length
          · rw [List.getElem?_append_left hi] at hz
            exact hy2 i z hz
          · have hiq : i = q := by
              have := (List.getElem?_eq_some_iff.1 hz).1
              simp at this
              omega
            subst hiq
            rw [List.getElem?_append_right (by omega), hy1] at hz
            simp at hz
            subst hz
            exact hy
      obtain ⟨ys, hy1, hy2⟩ := hY
      refine ⟨ys, ⟨some a, cap, by rw [hy1], by rw [hy1]; exact hl, rfl, ?_, fun _ => ⟨a, rfl, fun j p hj => (hy2 j p hj).2⟩⟩, ?_, fun x hx => ?_⟩
      · rw [hy1]
        unfold maxLen at hm
        omega
      · rw [hy1]; omega
      · obtain ⟨i, hi, rfl⟩ := List.mem_iff_getElem.1 hx
        exact (hy2 i _ (List.getElem?_eq_getElem hi)).1⟩

structure OpensFs (P : Program) (fs : List Field) (off : Nat) {α : Type} (d : Kd α) (good : α → Prop) : Prop where
  out : ∀ {H : Type} {enc : TypeId × Value → H} {w : World} {n : Nat} {cs : List Value}, cs.length = off + d.sz →
    (∀ f ∈ fs, ∃ x, DataW.trod enc P w 0 (fun _ => true) true n f.type ((cs.drop f.offset).take (P.cellsOf f.type)) = some x) → ∃ a, d.K w a (cs.drop off) ∧ good a

theorem OpensFs.cons {f : Field} {fs : List Field} {off : Nat} {α β : Type} {d : Kd α} {d' : Kd β} {good : α → Prop} {good' : β → Prop} (ho : f.offset = off) (h : Opens P f.type d good)
    (hs : OpensFs P fs (off + d.sz) d' good') : OpensFs P (f :: fs) off (Kd.pair d d') (fun x => good x.1 ∧ good' x.2) :=
  ⟨@fun H enc w n cs hl hf => by
    have hl' : cs.length = off + (d.sz + d'.sz) := hl
    obtain ⟨x, hx⟩ := hf f (by simp)
    rw [ho, h.size] at hx
    obtain ⟨a, ha, ga⟩ := h.out hx
    obtain ⟨b, hb, gb⟩ := hs.out (cs := cs) (by omega) (fun g hg => hf g (List.mem_cons_of_mem _ hg))
    refine ⟨(a, b), ⟨_, _, ?_, ha, hb⟩, ga, gb⟩
    rw [← List.drop_drop, List.take_append_drop]⟩

theorem Opens.struct {fs : Array Field} {fl : List Field} {α : Type} {d : Kd α} {good : α → Prop} (ht : P.underlying t = some (.struct fs)) (hc : P.cellsOf t = d.sz) (hl : fs.toList = fl) (hf : OpensFs P fl 0 d good) : Opens P t d good :=
  ⟨hc, @fun H enc w fuel cs x h => by
    obtain ⟨xs, n, _, _, hlen, hx1, hx2⟩ := DataW.trod_struct ht h
    obtain ⟨a, ha, hg⟩ := hf.out (enc := enc) (w := w) (n := n) (cs := cs) (by omega) (fun f hm => by
      subst hl
      obtain ⟨i, hi, he⟩ := List.mem_iff_getElem.1 hm
      have hi' : i < fs.size := by simpa using hi
      refine ⟨xs[i]'(by omega), ?_⟩
      rw [hx2 i f (by rw [Array.getElem?_eq_getElem hi']; simpa using he), List.getElem?_eq_getElem])
    exact ⟨a, by simpa using ha, hg⟩⟩

theorem Opens.iso {α β : Type} {d : Kd α} {good : α → Prop} (h : Opens P t d good) (f : β → α) (g : α → β) (hfg : ∀ a, f (g a) = a) : Opens P t (Kd.iso d f) (fun b => good (f b)) :=
  ⟨h.size, fun hx => by
    obtain ⟨a, ha, hg⟩ := h.out hx
    exact ⟨g a, by show d.K _ (f (g a)) _; rw [hfg]; exact ha, by rw [hfg]; exact hg⟩⟩

theorem Opens.value_slice {α : Type} {d : Kd α} {good : List α → Prop} {H : Type} {enc : TypeId × Value → H} {w : World} {r : Reach} {b0 : Nat} {v : Value} {x : DataW H} {ps : List MemPlace}
    (h : Opens P t (Kd.slice e d) good) (ht : P.underlying t = some (.slice e)) (hv : Value.okWide P w r b0 t v) (hd : DataW.Trod enc P w 0 (fun _ => true) true t v x ps) :
    ∃ A c xs, v = .slice A xs.length c ∧ xs.length ≤ c ∧ d.C w A xs.length xs ∧ good xs := by
  obtain ⟨a, len, cap, rfl⟩ := WideShapes.okWide_slice ht hv
  obtain ⟨fuel, hf⟩ := hd
  obtain ⟨xs, ⟨A, c, he, hl, hr⟩, hg⟩ := h.out hf
  simp [Value.cells] at he
  obtain ⟨rfl, rfl, rfl⟩ := he
  exact ⟨a, cap, xs, rfl, hl, hr, hg⟩

end Go.Proofs.Ytejbndfhaemigaa.Own
