-- The print's words of YtaafhggihebicaaXS, those that this claim's texts need (slim.py). Not trusted: Lean checks it.
import Derived.Test.YtaafhggihebicaaVFnExactNextChangeMore
import Derived.Sort.Grow
import Derived.Sort.EncStr
import Derived.Laws.OwnMore
namespace Go.Proofs.Ytaafhggihebicaa.XS
open Go.RowKit Go.Sort Go.Proofs.YtaafhggihebicaaW.PrintWords Go.Proofs.YtaafhggihebicaaW.PrintLast Go.Proofs.YtaafhggihebicaaW.PrintMore
set_option linter.unusedVariables false
set_option linter.unusedSimpArgs false
section
variable {α : Type} [Inhabited α] {enc : α → Value}
end
theorem grow_row {α : Type} {d : Kd α} {w w0 : World} {e : Nat} {P : Nat → Prop} {u : Value} {l : List α} (ho : d.R e w w0.heap.size P u l) (hB : Below w0.heap.size w0 w) :
    ∃ (A : Option Addr) (c : Nat) (cs : List Value), u = .slice A l.length c ∧ l.length ≤ c ∧ c ≤ maxLen ∧ (A = none → c = 0) ∧ cs.length = c * d.sz ∧ (∀ a, A = some a → ∀ j v, cs[j]? = some v → w.cell? (a.add j) = some v) ∧
      ∀ (cap : Nat) (tail : Array Value), l.length ≤ cap → cap ≤ maxLen → cs.length + tail.size = cap * d.sz →
        d.R e (w.drew.alloc (.cells (cs.toArray ++ tail) e)) w0.heap.size (fun k_ => (P k_ ∨ w.heap.size ≤ k_)) (.slice (some ⟨w.heap.size, 0, none⟩) l.length cap) l := by
  obtain ⟨hok, inner, hown, hr⟩ := ho
  have fin : ∀ (cs : List Value), cs.take (l.length * d.sz) = inner → ∀ (cap : Nat) (tail : Array Value), l.length ≤ cap → cap ≤ maxLen → cs.length + tail.size = cap * d.sz → l.length * d.sz ≤ cs.length →
        d.R e (w.drew.alloc (.cells (cs.toArray ++ tail) e)) w0.heap.size (fun k_ => (P k_ ∨ w.heap.size ≤ k_)) (.slice (some ⟨w.heap.size, 0, none⟩) l.length cap) l := by
    intro cs ht cap tail h1 h2 h3 h4
    have hb' : Below w.heap.size w (w.drew.alloc (.cells (cs.toArray ++ tail) e)) := below_alloc (below_drew (Below.refl _ _)) _
    refine ⟨fun k hk => ?_, inner, ⟨hown.1, .inr ⟨w.heap.size, cap, _, rfl, hB.size, heap_alloc_new w.drew _, h1, h2, by simp [h3], ?_⟩⟩, hr.imp_ fun x c hm => ?_⟩
    · have : w.heap.size = k := by simpa [Value.ownBlock] using hk
      exact .inr (by omega)
    · rw [← ht]
      simp only [Array.toList_append, List.take_append_of_le_length h4]
    · refine d.M_mono (fun k hk => ?_) (Kd.M_below (d.M_bound hm) hb')
      refine ⟨.inl hk.1.1, fun he => ?_⟩
      have h5 : k = w.heap.size := by simpa [Value.ownBlock] using he
      have := hk.2.2.1
      omega
  rcases hown.2 with ⟨rfl, hn⟩ | ⟨g, cap, cur, rfl, hbase, hb, hc1, hc2, hc3, hc4⟩
  · refine ⟨none, 0, [], by rw [hn], by omega, by omega, fun _ => rfl, by simp, (fun a ha => by cases ha), fun cap tail h1 h2 h3 => fin [] ?_ cap tail h1 h2 h3 (by simp [hn])⟩
    have := hown.1
    rw [hn, Nat.zero_mul] at this
    rw [List.length_eq_zero_iff.1 this]; simp
  · refine ⟨some ⟨g, 0, none⟩, cap, cur.toList, rfl, hc1, hc2, (fun h => by cases h), by simpa using hc3, fun a ha j v hj => ?_, fun cap' tail h1 h2 h3 => fin cur.toList hc4 cap' tail h1 h2 h3 (by simp [hc3]; exact Nat.mul_le_mul_right _ hc1)⟩
    cases ha
    have ea : (⟨g, 0, none⟩ : Addr).add j = ⟨g, j, none⟩ := by cases j <;> simp [Addr.add]
    rw [ea]
    simp only [World.cell?, hb, Option.isSome_none, Bool.false_eq_true, if_false]
    simpa using hj
end Go.Proofs.Ytaafhggihebicaa.XS
