-- The print's words of YtallocgnpbpbhabXW, those that this claim's texts need (slim.py). Not trusted: Lean checks it.
import Derived.Test.YtallocgnpbpbhabVFnExactCountsOfMore
import Derived.Deep.Slices
import Derived.ChangeArms
import Derived.WideShapes
import Derived.Lib.SmallJoins
import Derived.DataReads
namespace Go.Proofs.Ytallocgnpbpbhab.XW
open Go.RowKit Go.Proofs.YtallocgnpbpbhabW.PrintWords Go.Proofs.YtallocgnpbpbhabW.PrintLast Go.Proofs.YtallocgnpbpbhabW.PrintMore
def fa (p : Addr) : Nat → Addr
  | 0 => p
  | j + 1 => ⟨p.block, p.off + (j + 1), none⟩
def RPf (w : World) (p : Addr) : Nat → List Value → Prop
  | _, [] => True
  | j, v :: vs => w.cell? (fa p j) = some v ∧ RPf w p (j + 1) vs
def RP (w : World) (p : Addr) (vs : List Value) : Prop := RPf w p 0 vs
theorem RPf.below {w w1 : World} {p : Addr} : ∀ {vs : List Value} {j : Nat}, RPf w p j vs → Below w.heap.size w w1 → RPf w1 p j vs
  | [], _, _, _ => trivial
  | _ :: _, _, h, hb => ⟨pw_cell_below hb h.1, RPf.below h.2 hb⟩
theorem RP.below {w w1 : World} {p : Addr} {vs : List Value} (h : RP w p vs) (hb : Below w.heap.size w w1) : RP w1 p vs := RPf.below h hb
theorem RP.alloc {w : World} {p : Addr} {vs : List Value} (h : RP w p vs) (o : Obj) : RP (w.alloc o) p vs := RP.below h (below_alloc (Below.refl _ _) o)
theorem RP.drewN {w : World} {p : Addr} {vs : List Value} (h : RP w p vs) (n : Nat) : RP (w.drewN n) p vs := RP.below h (pw_below_drewN (Below.refl _ _) n)
theorem RP.drew {w : World} {p : Addr} {vs : List Value} (h : RP w p vs) : RP w.drew p vs := RP.below h (below_drew (Below.refl _ _))
theorem RP.lt {w : World} {p : Addr} {v : Value} {vs : List Value} (h : RP w p (v :: vs)) : p.block < w.heap.size := World.block_lt_of_cell? w _ h.1
theorem RPf.get {w : World} {p : Addr} : ∀ {vs : List Value} {j : Nat}, RPf w p j vs → ∀ (i : Nat) {v : Value}, vs[i]? = some v → w.cell? (fa p (j + i)) = some v
  | [], _, _, _, _, hi => by simp at hi
  | _ :: _, j, h, 0, _, hi => by cases hi; exact h.1
  | _ :: _, j, h, i + 1, _, hi => by
    have := RPf.get h.2 i (by simpa using hi)
    rwa [Nat.add_assoc, Nat.add_comm 1 i] at this
theorem RP.get {w : World} {p : Addr} {vs : List Value} (h : RP w p vs) (i : Nat) {v : Value} (hi : vs[i]? = some v) : w.cell? (fa p i) = some v := by
  have := RPf.get h i hi
  rwa [Nat.zero_add] at this
theorem RPf.of_block {w : World} {g : Nat} {t : TypeId} {cs : Array Value} (h : w.heap[g]? = some (.cells cs t (0, 0))) : ∀ (vs : List Value) (j : Nat), (∀ i v, vs[i]? = some v → cs[j + i]? = some v) → RPf w ⟨g, 0, none⟩ j vs
  | [], _, _ => trivial
  | v :: vs, j, hv => by
    refine ⟨?_, RPf.of_block h vs (j + 1) fun i u hu => ?_⟩
    · have h0 := hv 0 v rfl
      cases j with
      | zero => exact (blk_cell h 0).trans h0
      | succ j =>
        show w.cell? ⟨g, 0 + (j + 1), none⟩ = some v
        rw [Nat.zero_add]
        exact (blk_cell h (j + 1)).trans h0
    · have := hv (i + 1) u (by simpa using hu)
      rwa [Nat.add_assoc, Nat.add_comm 1 i]
theorem RP.of_block {w : World} {g : Nat} {t : TypeId} {vs : List Value} (h : w.heap[g]? = some (.cells vs.toArray t (0, 0))) : RP w ⟨g, 0, none⟩ vs :=
  RPf.of_block h vs 0 fun i v hv => by simpa using hv
section
open Go.ChangeShapes Go.WideShapes Go.Deep
theorem cells_at {w : World} {base : Nat} {a : Addr} {n : Nat} {cs : List Value} (h : w.cells? base a n = some cs) : cs.length = n ∧ ∀ i, i < n → w.cell? (a.add i) = cs[i]? := by
  obtain ⟨_, hl, hc⟩ := World.cells?_some h
  exact ⟨hl, hc⟩
def Opens {α : Type} (P : Program) (t : TypeId) (d : Kd α) (Q : α → Prop) : Prop :=
  ∀ (H : Type) (enc : TypeId × Value → H) (w : World) (base : Nat) (spare : Nat → Bool) (fuel : Nat) (cs : List Value) (x : DataW H × List MemPlace),
    DataW.trod enc P w base spare true fuel t cs = some x → ∃ y, d.K w y cs ∧ Q y
theorem opens_int {P : Program} {t : TypeId} {k : IntKind} (ht : P.underlying t = some (.int k)) : Opens P t (Kd.int k) (fun n => (Lit.int k n).wf = true) := by
  intro H enc w base spare fuel cs x h
  cases fuel with
  | zero => simp [DataW.trod] at h
  | succ n =>
    unfold DataW.trod at h
    rw [ht] at h
    split at h <;> simp only [Option.some.injEq, reduceCtorEq, TypeDesc.int.injEq] at *
    rename_i hk
    subst hk
    split at h
    · rename_i hc
      obtain ⟨rfl, hw⟩ := hc
      exact ⟨_, rfl, hw⟩
    · cases h
theorem opens_bool {P : Program} {t : TypeId} (ht : P.underlying t = some .bool) : Opens P t Kd.bool (fun _ => True) := by
  intro H enc w base spare fuel cs x h
  cases fuel with
  | zero => simp [DataW.trod] at h
  | succ n =>
    unfold DataW.trod at h
    rw [ht] at h
    split at h <;> simp only [Option.some.injEq, reduceCtorEq] at *
    exact ⟨_, rfl, trivial⟩
theorem opens_string {P : Program} {t : TypeId} (ht : P.underlying t = some .string) : Opens P t Kd.string (fun s => s.size ≤ 9223372036854775807) := by
  intro H enc w base spare fuel cs x h
  cases fuel with
  | zero => simp [DataW.trod] at h
  | succ n =>
    unfold DataW.trod at h
    rw [ht] at h
    split at h <;> simp only [Option.some.injEq, reduceCtorEq] at *
    split at h
    · rename_i hc
      exact ⟨_, rfl, by simpa [maxLen] using hc⟩
    · cases h
theorem opens_slice {α : Type} {P : Program} {t e : TypeId} {d : Kd α} {Q : α → Prop} [Inhabited α] (ht : P.underlying t = some (.slice e)) (hs : P.cellsOf e = d.sz) (ho : Opens P e d Q) :
    Opens P t (Kd.slice e d) (fun l => l.length ≤ 9223372036854775807 ∧ ∀ y ∈ l, Q y) := by
  intro H enc w base spare fuel cs x h
  rcases DataW.trod_slice ht h with ⟨rfl, _⟩ | ⟨a, len, cap, elems, rest, n, _, rfl, rfl, hb, hl, hm, hlen, hel, hsp, hns⟩
  · exact ⟨[], ⟨none, 0, rfl, Nat.le_refl _, rfl, by simp, by simp⟩, by simp, by simp⟩
  · have each : ∀ i, i < len → ∃ y : α, (∃ c, c.length = d.sz ∧ d.K w y c ∧ ∀ j u, c[j]? = some u → w.cell? (a.add (i * d.sz + j)) = some u) ∧ Q y := by
      intro i hi
      have h1 := hel i hi
      rw [List.getElem?_eq_getElem (by omega), Option.bind_eq_some_iff] at h1
      obtain ⟨c, hc, h2⟩ := h1
      obtain ⟨hcl, hcc⟩ := cells_at hc
      obtain ⟨y, hK, hQ⟩ := ho H enc w base spare n c _ h2
      refine ⟨y, ⟨c, by rw [hcl, hs], hK, fun j u hu => ?_⟩, hQ⟩
      have hj : j < c.length := (List.getElem?_eq_some_iff.1 hu).1
      rw [← Go.Deep.add_add, ← hs, ← hu]
      exact hcc j (by omega)
    obtain ⟨f, hf⟩ := choose_lt each
    have hm' : cap ≤ 9223372036854775807 := by simpa [maxLen] using hm
    have hlf : ((List.range len).map f).length = len := by simp
    refine ⟨(List.range len).map f, ⟨some a, cap, by rw [hlf], by rw [hlf]; exact hl, by simp, by rw [hlf]; omega, fun _ => ⟨a, rfl, fun j p hj => ?_⟩⟩, by rw [hlf]; omega, fun y hy => ?_⟩
    · have hjl : j < len := by have := (List.getElem?_eq_some_iff.1 hj).1; omega
      have : p = f j := by
        rw [List.getElem?_map, List.getElem?_range hjl] at hj
        simpa using hj.symm
      subst this
      exact (hf j hjl).1
    · obtain ⟨i, hi, rfl⟩ := List.mem_map.1 hy
      exact (hf i (List.mem_range.1 hi)).2
def OpensF {α : Type} (P : Program) (fs : List Field) (off : Nat) (d : Kd α) (Q : α → Prop) : Prop :=
  ∀ (H : Type) (enc : TypeId × Value → H) (w : World) (base : Nat) (spare : Nat → Bool) (fuel : Nat) (cs : List Value), off + d.sz ≤ cs.length →
    (∀ (i : Nat) (f : Field), fs[i]? = some f → ∃ x, DataW.trod enc P w base spare true fuel f.type ((cs.drop f.offset).take (P.cellsOf f.type)) = some x) → ∃ y, d.K w y ((cs.drop off).take d.sz) ∧ Q y
theorem opensF_one {α : Type} {P : Program} {f : Field} {off : Nat} {d : Kd α} {Q : α → Prop} (ho : f.offset = off) (hs : P.cellsOf f.type = d.sz) (h : Opens P f.type d Q) : OpensF P [f] off d Q := by
  intro H enc w base spare fuel cs _ hx
  obtain ⟨x, hx⟩ := hx 0 f rfl
  rw [ho, hs] at hx
  exact h H enc w base spare fuel _ _ hx
theorem opensF_cons {α β : Type} {P : Program} {f : Field} {fs : List Field} {off : Nat} {d : Kd α} {d' : Kd β} {Q : α → Prop} {Q' : β → Prop} (ho : f.offset = off) (hs : P.cellsOf f.type = d.sz) (h : Opens P f.type d Q) (h' : OpensF P fs (off + d.sz) d' Q') :
    OpensF P (f :: fs) off (Kd.pair d d') (fun y => Q y.1 ∧ Q' y.2) := by
  intro H enc w base spare fuel cs hl hx
  have hsz : (Kd.pair d d').sz = d.sz + d'.sz := rfl
  obtain ⟨x, hx0⟩ := hx 0 f rfl
  rw [ho, hs] at hx0
  obtain ⟨y, hK, hQ⟩ := h H enc w base spare fuel _ _ hx0
  obtain ⟨y', hK', hQ'⟩ := h' H enc w base spare fuel cs (by omega) (fun i g hg => hx (i + 1) g (by simpa using hg))
  refine ⟨(y, y'), ⟨_, _, ?_, hK, hK'⟩, hQ, hQ'⟩
  rw [hsz, ← List.drop_drop, List.take_add]
theorem opens_struct {α β : Type} {P : Program} {t : TypeId} {fs : Array Field} {d : Kd α} {Q : α → Prop} (ht : P.underlying t = some (.struct fs)) (hs : P.cellsOf t = d.sz) (h : OpensF P fs.toList 0 d Q) (f : β → α) (g : α → β) (hg : ∀ y, f (g y) = y) :
    Opens P t (Kd.iso d f) (fun x => Q (f x)) := by
  intro H enc w base spare fuel cs x hx
  obtain ⟨xs, n, rfl, _, hl, hxs, he⟩ := DataW.trod_struct ht hx
  obtain ⟨y, hK, hQ⟩ := h H enc w base spare n cs (by omega) (fun i f' hf => by
    have hf' : fs[i]? = some f' := by simpa using hf
    have hi : i < xs.length := by rw [hxs]; exact (Array.getElem?_eq_some_iff.1 hf').1
    exact ⟨xs[i], by rw [he i f' hf', List.getElem?_eq_getElem hi]⟩)
  refine ⟨g y, ?_, by show Q (f (g y)); rw [hg]; exact hQ⟩
  show d.K w (f (g y)) cs
  rw [hg]
  rw [List.drop_zero, List.take_of_length_le (by omega)] at hK
  exact hK
theorem opens_arg {α : Type} {H : Type} {enc : TypeId × Value → H} {P : Program} {w w0 : World} {base b0 : Nat} {r : Reach} {spare : Nat → Bool} {t : TypeId} {fs : Array Field} {d : Kd α} {Q : α → Prop} {v : Value} {x : DataW H} {ps : List MemPlace}
    (ht : P.underlying t = some (.struct fs)) (hs : P.cellsOf t = d.sz) (h : OpensF P fs.toList 0 d Q) (hv : Value.okWide P w0 r b0 t v) (hx : DataW.Trod enc P w base spare true t v x ps) :
    ∃ (cs : List Value) (y : α), v = .agg cs.toArray ∧ d.K w y cs ∧ Q y := by
  obtain ⟨cs, rfl, hsz⟩ := okWide_struct ht hv
  obtain ⟨fuel, hf⟩ := hx
  have hf' : DataW.trod enc P w base spare true fuel t cs.toList = some (x, ps) := by simpa [Value.cells] using hf
  obtain ⟨y, hK, hQ⟩ := opens_struct ht hs h (fun y => y) (fun y => y) (fun _ => rfl) H enc w base spare fuel _ _ hf'
  exact ⟨cs.toList, y, by simp, hK, hQ⟩
end
@[go_sem] theorem str_geq (t : TypeId) (a b : ByteArray) : binOp .geq t (.string a) (.string b) = pure (.bool !(Op.bytesLess a.toList b.toList)) := by simp [binOp, Op.stringOp]
def TyP (w : World) (b : Nat) (L : List Nat) (k : Nat) : Prop := b ≤ k ∧ ∃ q, q ∈ L ∧ ∃ cells, w.heap[k]? = some (.cells cells q (0, 0))
section
variable {α : Type} {d : Kd α} {e base b g n cap : Nat} {w0 W W2 : World} {ok oki : Nat → Prop} {v : Value} {xs : List α} {L : List Nat}
theorem not_ty {k q : Nat} {cells : Array Value} (hc : W.heap[k]? = some (.cells cells q (0, 0))) (hq : q ∉ L) : ¬ TyP W b L k := by
  rintro ⟨_, q', hq', cells', hc'⟩
  rw [hc] at hc'
  injection hc' with hc'
  injection hc' with _ h2 _
  exact hq (h2 ▸ hq')
theorem S_ty2 (h : Kd.S d e W base ok v xs) (hL : ∀ q, q ∈ e :: d.E → q ∈ L) : Kd.S d e W base (fun k => ok k ∧ TyP W base L k) v xs :=
  Kd.S_mono (Kd.S_bound h) (fun _ hk => by obtain ⟨h1, hb, _, q, hq, hc⟩ := hk; exact ⟨h1, hb, q, hL q hq, hc⟩)
theorem blk_kept_ty2 {P : Nat → Prop} {t : Nat} {cs : Array Value} (hb : W.heap[g]? = some (.cells cs t (0, 0))) (hk : Kept W W2 (fun k => P k ∧ TyP W b L k)) (ht : t ∉ L) : W2.heap[g]? = some (.cells cs t (0, 0)) :=
  blk_kept hb hk (fun h => not_ty hb ht h.2)
theorem S_through (h : Kd.S d e W base ok (.slice (some ⟨g, 0, none⟩) n cap) xs) (z : α) (i : Int) (h0 : 0 ≤ i) (h1 : i < n) :
    ∃ (oki : Nat → Prop) (c : List Value), c.length = d.sz ∧ d.M W base oki (xs.getD i.toNat z) c ∧ (∀ j u, c[j]? = some u → W.cell? ⟨g, i.toNat * d.sz + j, none⟩ = some u) ∧ (∀ k, oki k → ok k ∧ k ≠ g) ∧
      ∀ {w1 : World} {x' : α}, Kept W w1 oki → d.M w1 base oki x' c → Kd.S d e w1 base ok (.slice (some ⟨g, 0, none⟩) n cap) (xs.set i.toNat x') := by
  obtain ⟨oki, c, h2, h3, h4, h5, h6⟩ := Kd.S_lend h z i h0 h1
  exact ⟨oki, c, h2, h3, h4, h5, fun hk hM => Kd.H_back (Kd.H_kept h6 hk (fun _ _ hn => hn)) hM (fun _ h => h)⟩
end
end Go.Proofs.Ytallocgnpbpbhab.XW
