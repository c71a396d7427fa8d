-- Words of XW that the law's row needs. Not trusted: Lean checks it.
import Derived.Test.YtaafhggihebicaaVFnExactTypingAtXW
import Derived.Deep.Slices
import Derived.ChangeArms
import Derived.WideShapes
import Derived.Lib.SmallJoins
import Derived.DataReads
namespace Go.Proofs.Ytaafhggihebicaa.XW
open Go.RowKit Go.Proofs.YtaafhggihebicaaW.PrintWords Go.Proofs.YtaafhggihebicaaW.PrintLast Go.Proofs.YtaafhggihebicaaW.PrintMore
section
open Go.ChangeShapes Go.WideShapes Go.Deep
theorem cells_at {w : World} {base : Nat} {a : Addr} {n : Nat} {cs : List Value} (h : w.cells? base a n = some cs) : cs.length = n ∧ ∀ i, i < n → w.cell? (a.add i) = cs[i]? := by
  obtain ⟨_, hl, hc⟩ := World.cells?_some h
  exact ⟨hl, hc⟩
theorem opens_slice {α : Type} {P : Program} {t e : TypeId} {d : Kd α} {Q : α → Prop} [Inhabited α] (ht : P.underlying t = some (.slice e)) (hs : P.cellsOf e = d.sz) (ho : Opens P e d Q) :
    Opens P t (Kd.slice e d) (fun l => l.length ≤ 9223372036854775807 ∧ ∀ y ∈ l, Q y) := by
  intro H enc w base spare fuel cs x h
  rcases DataW.trod_slice ht h with ⟨rfl, _⟩ | ⟨a, len, cap, elems, rest, n, _, rfl, rfl, hb, hl, hm, hlen, hel, hsp, hns⟩
  · exact ⟨[], ⟨none, 0, rfl, Nat.le_refl _, rfl, by simp, by simp⟩, by simp, by simp⟩
  · have each : ∀ i, i < len → ∃ y : α, (∃ c, c.length = d.sz ∧ d.K w y c ∧ ∀ j u, c[j]? = some u → w.cell? (a.add (i * d.sz + j)) = some u) ∧ Q y := by
      intro i hi
      have h1 := hel i hi
      rw [List.getElem?_eq_getElem (by omega), Option.bind_eq_some_iff] at h1
      obtain ⟨c, hc, h2⟩ := h1
      obtain ⟨hcl, hcc⟩ := cells_at hc
      obtain ⟨y, hK, hQ⟩ := ho H enc w base spare n c _ h2
      refine ⟨y, ⟨c, by rw [hcl, hs], hK, fun j u hu => ?_⟩, hQ⟩
      have hj : j < c.length := (List.getElem?_eq_some_iff.1 hu).1
      rw [← Go.Deep.add_add, ← hs, ← hu]
      exact hcc j (by omega)
    obtain ⟨f, hf⟩ := choose_lt each
    have hm' : cap ≤ 9223372036854775807 := by simpa [maxLen] using hm
    have hlf : ((List.range len).map f).length = len := by simp
    refine ⟨(List.range len).map f, ⟨some a, cap, by rw [hlf], by rw [hlf]; exact hl, by simp, by rw [hlf]; omega, fun _ => ⟨a, rfl, fun j p hj => ?_⟩⟩, by rw [hlf]; omega, fun y hy => ?_⟩
    · have hjl : j < len := by have := (List.getElem?_eq_some_iff.1 hj).1; omega
      have : p = f j := by
        rw [List.getElem?_map, List.getElem?_range hjl] at hj
        simpa using hj.symm
      subst this
      exact (hf j hjl).1
    · obtain ⟨i, hi, rfl⟩ := List.mem_map.1 hy
      exact (hf i (List.mem_range.1 hi)).2
theorem opens_arg {α : Type} {H : Type} {enc : TypeId × Value → H} {P : Program} {w w0 : World} {base b0 : Nat} {r : Reach} {spare : Nat → Bool} {t : TypeId} {fs : Array Field} {d : Kd α} {Q : α → Prop} {v : Value} {x : DataW H} {ps : List MemPlace}
    (ht : P.underlying t = some (.struct fs)) (hs : P.cellsOf t = d.sz) (h : OpensF P fs.toList 0 d Q) (hv : Value.okWide P w0 r b0 t v) (hx : DataW.Trod enc P w base spare true t v x ps) :
    ∃ (cs : List Value) (y : α), v = .agg cs.toArray ∧ d.K w y cs ∧ Q y := by
  obtain ⟨cs, rfl, hsz⟩ := okWide_struct ht hv
  obtain ⟨fuel, hf⟩ := hx
  have hf' : DataW.trod enc P w base spare true fuel t cs.toList = some (x, ps) := by simpa [Value.cells] using hf
  obtain ⟨y, hK, hQ⟩ := opens_struct ht hs h (fun y => y) (fun y => y) (fun _ => rfl) H enc w base spare fuel _ _ hf'
  exact ⟨cs.toList, y, by simp, hK, hQ⟩
end
end Go.Proofs.Ytaafhggihebicaa.XW
