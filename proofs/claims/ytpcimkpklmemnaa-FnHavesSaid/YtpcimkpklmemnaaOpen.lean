/- What a row's arguments read as, told by the printed kinds: whole numbers, bools, texts, slices and structs of these, nested as they may be. Conditions: the reading is the row's own, and each weight is within the form's reach. -/
import Derived.Test.YtpcimkpklmemnaaWWords
import Derived.SizedLaws
import Derived.ChangeArms
import Derived.ChangeSlices
import Derived.Deep.Slices
import Derived.WideShapes
namespace Go.Proofs.Ytpcimkpklmemnaa.Open
open Go.ChangeShapes Go.WideShapes Go.Proofs.YtpcimkpklmemnaaW.PrintWords

theorem mem_all {H : Type} {P : Program} {e : TypeId} {d : DataW H} : ∀ {l : List (DataW H)}, d ∈ l → ∀ n ∈ d.weights P e, n ∈ DataW.weightsAll P e l
  | a :: l, h, n, hn => by
    simp only [DataW.weightsAll, List.mem_append]
    rcases List.mem_cons.1 h with rfl | h
    · exact Or.inl hn
    · exact Or.inr (mem_all h n hn)

theorem list_of {α : Type} : ∀ (n : Nat) (f : Nat → Option α), (∀ i : Nat, i < n → ∃ u, f i = some u) → ∃ l : List α, l.length = n ∧ ∀ i : Nat, i < n → l[i]? = f i
  | 0, _, _ => ⟨[], rfl, fun i hi => absurd hi (by omega)⟩
  | m + 1, f, h => by
    obtain ⟨l, h1, h2⟩ := list_of m f (fun i hi => h i (by omega))
    obtain ⟨u, hu⟩ := h m (by omega)
    refine ⟨l ++ [u], by simp [h1], fun i hi => ?_⟩
    by_cases hi2 : i < m
    · rw [List.getElem?_append_left (by omega)]
      exact h2 i hi2
    · obtain rfl : i = m := by omega
      rw [List.getElem?_append_right (by omega), h1, hu]
      simp

/-- Whatever reads as data of type t in W reads as a value of kind d with the property B. -/
def Opens {α : Type} (P : Program) (W : World) (t : TypeId) (d : Kd α) (B : α → Prop) : Prop :=
  ∀ (H : Type) (enc : TypeId × Value → H) (fuel : Nat) (cs : List Value) (x : DataW H × List MemPlace),
    DataW.trod enc P W 0 (fun _ => true) true fuel t cs = some x → (∀ n ∈ x.1.weights P t, n ≤ reachBytes) → ∃ a : α, d.K W a cs ∧ B a

section
variable {P : Program} {W : World} {t : TypeId}

theorem opens_int {k : IntKind} (ht : P.underlying t = some (.int k)) : Opens P W t (Kd.int k) (fun a => (Lit.int k a).wf = true) := by
  intro H enc fuel cs x h _
  obtain ⟨n, rfl, _, hw⟩ := DataW.trod_int ht h
  exact ⟨n, rfl, hw⟩
theorem opens_bool (ht : P.underlying t = some .bool) : Opens P W t Kd.bool (fun _ => True) := by
  intro H enc fuel cs x h _
  obtain ⟨n, rfl, _⟩ := DataW.trod_bool ht h
  exact ⟨n, rfl, trivial⟩
theorem opens_string (ht : P.underlying t = some .string) : Opens P W t Kd.string (fun a => a.size ≤ 140737488351232) := by
  intro H enc fuel cs x h hz
  obtain ⟨s, rfl, rfl, _⟩ := DataW.trod_string ht h
  refine ⟨s, rfl, ?_⟩
  have z := hz s.data.toList.length (by simp [DataW.weights])
  rw [Array.length_toList] at z
  exact z
theorem opens_slice {α : Type} {e : TypeId} {d : Kd α} {B : α → Prop} (z : Nat) (ht : P.underlying t = some (.slice e)) (hc : P.cellsOf e = d.sz) (hb : P.bytesOf e = z) (h : Opens P W e d B) :
    Opens P W t (Kd.slice e d) (fun l => l.length * z ≤ 140737488351232 ∧ ∀ x ∈ l, B x) := by
  intro H enc fuel cs x hx hz
  rcases DataW.trod_slice ht hx with ⟨rfl, rfl⟩ | ⟨a, len, cap, elems, rest, n, _, rfl, rfl, _, hl, hm, hlen, hel, _, _⟩
  · exact ⟨[], ⟨none, 0, rfl, Nat.le_refl _, ⟨rfl, by simp, fun h => absurd h (by simp)⟩⟩, by simp, by simp⟩
  · have key : ∀ i : Nat, i < len → ∃ (y : Option α), ∃ u, y = some u ∧ B u ∧ ∃ c, c.length = d.sz ∧ d.K W u c ∧ ∀ j v, c[j]? = some v → W.cell? (a.add (i * d.sz + j)) = some v := by
      intro i hi
      have h1 := hel i hi
      rw [List.getElem?_eq_getElem (by omega)] at h1
      obtain ⟨c, hcs, hc2⟩ := Option.bind_eq_some_iff.1 h1
      obtain ⟨_, hcl, hcell⟩ := World.cells?_some hcs
      obtain ⟨u, hu, hB⟩ := h H enc n c _ hc2 (fun m hm' => hz m (by
        simp only [DataW.weights, ht, List.mem_cons, List.mem_append]
        refine Or.inr (Or.inl (mem_all (d := elems[i].1) ?_ m hm'))
        exact List.mem_map.2 ⟨elems[i], List.getElem_mem _, rfl⟩))
      refine ⟨some u, u, rfl, hB, c, hcl.trans hc, hu, fun j v hv => ?_⟩
      have hj : j < P.cellsOf e := by
        have := (List.getElem?_eq_some_iff.1 hv).1
        omega
      have := hcell j hj
      rw [Go.Deep.add_add, hc] at this
      rw [this]
      exact hv
    obtain ⟨f, hf⟩ := Go.Deep.choose_lt key
    have hf2 : ∀ i : Nat, i < len → ∃ u, f i = some u := fun i hi => by obtain ⟨u, hu, _⟩ := hf i hi; exact ⟨u, hu⟩
    obtain ⟨l, hl1, hl2⟩ := list_of len f hf2
    refine ⟨l, ⟨some a, cap, by rw [hl1], by omega, ⟨by rw [hl1], ?_, fun _ => ⟨a, rfl, fun j p hj => ?_⟩⟩⟩, ?_, fun u hu => ?_⟩
    · have : cap ≤ maxLen := hm
      unfold maxLen at this
      omega
    · have hjl : j < len := by
        have := (List.getElem?_eq_some_iff.1 hj).1
        omega
      obtain ⟨u, e1, _, c, h1, h2, h3⟩ := hf j hjl
      rw [hl2 j hjl, e1] at hj
      obtain rfl := Option.some.inj hj
      exact ⟨c, h1, h2, h3⟩
    · have hz2 := hz ((elems.map (·.1)).length * P.bytesOf e + (rest.map (·.1)).length * P.bytesOf e) (by
        simp only [DataW.weights, ht, List.mem_cons]
        exact Or.inl (by rw [Nat.add_mul]))
      rw [List.length_map, hlen, hb] at hz2
      have : reachBytes = 140737488351232 := rfl
      rw [hl1]
      omega
    · obtain ⟨i, hi, rfl⟩ := List.mem_iff_getElem.1 hu
      obtain ⟨u, e1, h1, _⟩ := hf i (by omega)
      have h2 := hl2 i (by omega)
      rw [List.getElem?_eq_getElem hi, e1] at h2
      rw [Option.some.inj h2]
      exact h1

/-- The fields of a struct from an offset on. -/
def OpensF {α : Type} (P : Program) (W : World) (fs : List Field) (off : Nat) (d : Kd α) (B : α → Prop) : Prop :=
  ∀ (H : Type) (enc : TypeId × Value → H) (n : Nat) (cs : List Value) (xs : List (DataW H × List MemPlace)), xs.length = fs.length →
    (∀ (i : Nat) (f : Field), fs[i]? = some f → DataW.trod enc P W 0 (fun _ => true) true n f.type ((cs.drop f.offset).take (P.cellsOf f.type)) = xs[i]?) →
    (∀ m ∈ DataW.weightsEach P (fs.map (·.type)) (xs.map (·.1)), m ≤ reachBytes) → cs.length = off + d.sz → ∃ a : α, d.K W a (cs.drop off) ∧ B a

theorem opensF_one {α : Type} {f : Field} {off : Nat} {d : Kd α} {B : α → Prop} (h : Opens P W f.type d B) (ho : f.offset = off) (hc : P.cellsOf f.type = d.sz) : OpensF P W [f] off d B := by
  intro H enc n cs xs hl hx hz hcs
  have h1 := hx 0 f rfl
  obtain ⟨x, rfl⟩ : ∃ x, xs = [x] := by
    cases xs with
    | nil => simp at hl
    | cons x r => cases r with
      | nil => exact ⟨x, rfl⟩
      | cons y r => simp at hl
  rw [ho, hc, List.take_of_length_le (by rw [List.length_drop]; omega)] at h1
  exact h H enc n _ x h1 (fun m hm => hz m (by simp [DataW.weightsEach, hm]))
theorem opensF_cons {α β : Type} {f : Field} {fs : List Field} {off off2 : Nat} {d : Kd α} {d2 : Kd β} {B : α → Prop} {B2 : β → Prop} (h : Opens P W f.type d B) (ho : f.offset = off) (hc : P.cellsOf f.type = d.sz)
    (h2 : OpensF P W fs off2 d2 B2) (h3 : off2 = off + d.sz) : OpensF P W (f :: fs) off (Kd.pair d d2) (fun a => B a.1 ∧ B2 a.2) := by
  intro H enc n cs xs hl hx hz hcs
  have hcs2 : cs.length = off + (d.sz + d2.sz) := hcs
  cases xs with
  | nil => simp at hl
  | cons x xs =>
    have h1 := hx 0 f rfl
    rw [ho, hc] at h1
    obtain ⟨a, ha, hB⟩ := h H enc n _ x h1 (fun m hm => hz m (by simp [DataW.weightsEach, hm]))
    obtain ⟨b, hb, hB2⟩ := h2 H enc n cs xs (by simpa using hl) (fun i g hg => hx (i + 1) g hg) (fun m hm => hz m (by simp only [List.map_cons, DataW.weightsEach, List.mem_append]; exact Or.inr hm)) (by omega)
    refine ⟨(a, b), ⟨_, _, ?_, ha, hb⟩, hB, hB2⟩
    rw [h3, ← List.drop_drop, List.take_append_drop]
theorem opens_struct {α : Type} {fs : Array Field} {d : Kd α} {B : α → Prop} (ht : P.underlying t = some (.struct fs)) (hc : P.cellsOf t = d.sz) (h : OpensF P W fs.toList 0 d B) : Opens P W t d B := by
  intro H enc fuel cs x hx hz
  obtain ⟨xs, n, _, rfl, hl, hxl, hel⟩ := DataW.trod_struct ht hx
  obtain ⟨a, ha, hB⟩ := h H enc n cs xs (by rw [hxl, Array.length_toList]) (fun i f hf => hel i f (by rw [← Array.getElem?_toList]; exact hf)) (fun m hm => hz m (by simp only [DataW.weights, ht]; exact hm)) (by omega)
  exact ⟨a, ha, hB⟩
theorem opens_iso {α β : Type} {d : Kd α} {B : α → Prop} {f : β → α} {B2 : β → Prop} (h : Opens P W t d B) (g : α → β) (hfg : ∀ a, f (g a) = a) (hB : ∀ a, B a → B2 (g a)) : Opens P W t (Kd.iso d f) B2 := by
  intro H enc fuel cs x hx hz
  obtain ⟨a, ha, hb⟩ := h H enc fuel cs x hx hz
  refine ⟨g a, ?_, hB a hb⟩
  show d.K W (f (g a)) cs
  rw [hfg]
  exact ha
end

/-- A parameter's weights. -/
theorem weights_at {H : Type} {P : Program} {ts : List TypeId} {ds : List (DataW H)} (hsz : (DataW.weightsEach P ts ds).all (· ≤ reachBytes) = true) {j : Nat} {t : TypeId} {d : DataW H} (ht : ts[j]? = some t) (hd : ds[j]? = some d) :
    ∀ n ∈ d.weights P t, n ≤ reachBytes := fun n hn => by
  have := List.all_eq_true.1 hsz n (DataW.weights_mem_each ht hd n hn)
  simpa using this
end Go.Proofs.Ytpcimkpklmemnaa.Open
