/- What a value of any type reads as: views of the types that occur as arguments (numbers, strings, structs, slices, arrays), opened out of the row's reading, and kept while the old blocks keep. -/
import Derived.Deep.Slices
import Derived.ChangeArms
import Derived.OpenShut
set_option linter.unusedVariables false
set_option linter.unusedSimpArgs false
namespace Go.Proofs.Ytpolmnemknehaaa
open Go.ChangeShapes Go.WideShapes

/-- A view of a type: what its cells mean. -/
structure View (P : Program) (t : TypeId) (α : Type) where
  R : World → List Value → α → Prop
  opens : ∀ {H : Type} {enc : TypeId × Value → H} {w : World} {base : Nat} {spare : Nat → Bool} {held : Bool} {fuel : Nat} {cs : List Value} {x : DataW H × List MemPlace},
    DataW.trod enc P w base spare held fuel t cs = some x → ∃ a, R w cs a
  keeps : ∀ {w w' : World} {cs : List Value} {a : α}, (∀ b : Addr, b.block < w.heap.size → w'.cell? b = w.cell? b) → R w cs a → R w' cs a
/-- a view of a stretch of fields -/
structure Flds (P : Program) (fs : List Field) (off : Nat) (α : Type) where
  R : World → List Value → α → Prop
  opens : ∀ {H : Type} {enc : TypeId × Value → H} {w : World} {base : Nat} {spare : Nat → Bool} {held : Bool} {fuel : Nat} {cs : List Value}, off ≤ cs.length →
    (∀ f, f ∈ fs → f.offset + P.cellsOf f.type ≤ cs.length) → (∀ f, f ∈ fs → ∃ y, DataW.trod enc P w base spare held fuel f.type ((cs.drop f.offset).take (P.cellsOf f.type)) = some y) →
    (fs = [] → cs.length = off) → (∀ f, fs.getLast? = some f → f.offset + P.cellsOf f.type = cs.length) → ∃ a, R w (cs.drop off) a
  keeps : ∀ {w w' : World} {cs : List Value} {a : α}, (∀ b : Addr, b.block < w.heap.size → w'.cell? b = w.cell? b) → R w cs a → R w' cs a

section
variable {P : Program} {t e : TypeId} {α β : Type}
def vInt (k : IntKind) (ht : P.underlying t = some (.int k)) : View P t Int where
  R := fun _ cs n => cs = [.int k n] ∧ (Lit.int k n).wf = true
  opens := fun h => by obtain ⟨n, h1, _, h3⟩ := DataW.trod_int ht h; exact ⟨n, h1, h3⟩
  keeps := fun _ h => h
def vBool (ht : P.underlying t = some .bool) : View P t Bool where
  R := fun _ cs b => cs = [.bool b]
  opens := fun h => by obtain ⟨n, h1, _⟩ := DataW.trod_bool ht h; exact ⟨n, h1⟩
  keeps := fun _ h => h
def vStr (ht : P.underlying t = some .string) : View P t (List UInt8) where
  R := fun _ cs l => cs = [.string ⟨l.toArray⟩] ∧ l.length ≤ maxLen
  opens := fun h => by
    obtain ⟨s, h1, _, h3⟩ := DataW.trod_string ht h
    have e : (⟨s.data.toList.toArray⟩ : ByteArray) = s := by rw [Array.toArray_toList]
    have l : s.data.toList.length = s.size := Array.length_toList
    exact ⟨s.data.toList, by rw [h1, e], by rw [l]; exact h3⟩
  keeps := fun _ h => h
/-- what a slice's cells hold -/
def SlR (n : Nat) (R : World → List Value → α → Prop) (w : World) (v : Value) (xs : List α) : Prop :=
  ∃ A cap, v = .slice A xs.length cap ∧ xs.length ≤ cap ∧ cap ≤ maxLen ∧ (A = none → xs = [] ∧ cap = 0) ∧
    ∀ i x, xs[i]? = some x → ∃ g o cs, A = some ⟨g, o, none⟩ ∧ g < w.heap.size ∧ cs.length = n ∧ (∀ j u, cs[j]? = some u → w.cell? ⟨g, o + i * n + j, none⟩ = some u) ∧ R w cs x
theorem list_of_lt [Inhabited α] {n : Nat} {p : Nat → α → Prop} (h : ∀ i, i < n → ∃ x, p i x) : ∃ l : List α, l.length = n ∧ ∀ i x, l[i]? = some x → p i x := by
  obtain ⟨f, hf⟩ := Go.Deep.choose_lt h
  refine ⟨(List.range n).map f, by simp, fun i x hx => ?_⟩
  have hi : i < n := by have := (List.getElem?_eq_some_iff.1 hx).1; simpa using this
  have e : ((List.range n).map f)[i]? = some (f i) := by simp [hi]
  rw [e] at hx
  cases hx
  exact hf i hi
def vSlice (n : Nat) (ht : P.underlying t = some (.slice e)) (hn : P.cellsOf e = n) (hp : 0 < n) (V : View P e α) : View P t (List α) where
  R := fun w cs xs => ∃ v, cs = [v] ∧ SlR n V.R w v xs
  opens := fun {H enc w base spare held fuel cs x} h => by
    rcases Go.Deep.open_slice ht h with ⟨h0, _⟩ | ⟨a, len, cap, m, f, D, Pl, h1, hb, hl, hm, hmm, hx, hc⟩
    · exact ⟨[], _, h0, none, 0, rfl, Nat.le_refl _, Nat.zero_le _, fun _ => ⟨rfl, rfl⟩, fun i x h => by simp at h⟩
    · have hlm : len ≤ m := by rw [hmm]; split <;> omega
      by_cases h0 : len = 0
      · subst h0
        exact ⟨[], _, h1, some a, cap, rfl, hl, hm, fun h => by simp at h, fun i x h => by simp at h⟩
      obtain ⟨g, o, s⟩ := a
      have hs : s = none := by
        obtain ⟨cs', k1, k2⟩ := hc 0 (by omega)
        rw [hn] at k1
        obtain ⟨_, hlen, hcell⟩ := World.cells?_some k1
        have z := hcell 0 hp
        rw [List.getElem?_eq_getElem (by omega)] at z
        have := World.cell?_spot z
        simpa [Addr.add] using this
      subst hs
      have one : ∀ i, i < len → ∃ x, ∃ g' o' cs, some (⟨g, o, none⟩ : Addr) = some (⟨g', o', none⟩ : Addr) ∧ g' < w.heap.size ∧ cs.length = n ∧ (∀ j u, cs[j]? = some u → w.cell? ⟨g', o' + i * n + j, none⟩ = some u) ∧ V.R w cs x := by
        intro i hi
        obtain ⟨cs', k1, k2⟩ := hc i (by omega)
        rw [hn] at k1
        obtain ⟨_, hlen, hcell⟩ := World.cells?_some k1
        obtain ⟨y, hy⟩ := V.opens k2
        have z := hcell 0 hp
        rw [List.getElem?_eq_getElem (by omega), add_plain, add_plain] at z
        refine ⟨y, g, o, cs', rfl, World.block_lt_of_cell? _ _ z, hlen, fun j u hj => ?_, hy⟩
        have hj' : j < n := by have := (List.getElem?_eq_some_iff.1 hj).1; omega
        have := hcell j hj'
        rw [add_plain, add_plain, hj] at this
        exact this
      haveI : Inhabited α := ⟨Classical.choose (one 0 (by omega))⟩
      obtain ⟨l, hl', hall⟩ := list_of_lt one
      exact ⟨l, _, h1, some _, cap, by rw [hl'], by omega, hm, fun h => by simp at h, fun i x hx => hall i x hx⟩
  keeps := fun {w w' cs xs} hk h => by
    obtain ⟨v, h1, A, cap, h2, h3, h4, h5, h6⟩ := h
    refine ⟨v, h1, A, cap, h2, h3, h4, h5, fun i x hx => ?_⟩
    obtain ⟨g, o, cs', a1, a2, a3, a4, a5⟩ := h6 i x hx
    have h' : ∀ j u, cs'[j]? = some u → w'.cell? ⟨g, o + i * n + j, none⟩ = some u := fun j u hj => by rw [hk _ a2]; exact a4 j u hj
    exact ⟨g, o, cs', a1, World.block_lt_of_cell? _ _ (h' 0 _ (List.getElem?_eq_getElem (by omega))), a3, h', V.keeps hk a5⟩
def vMap {α β : Type} (V : View P t α) (f : α → β) (g : β → α) (hg : ∀ a, g (f a) = a) : View P t β where
  R := fun w cs b => V.R w cs (g b)
  opens := fun h => by obtain ⟨a, ha⟩ := V.opens h; exact ⟨f a, by rw [hg]; exact ha⟩
  keeps := V.keeps
def fNil (off : Nat) : Flds P [] off Unit where
  R := fun _ cs _ => cs = []
  opens := fun _ _ _ h0 _ => ⟨(), by have := h0 rfl; simp [← this]⟩
  keeps := fun _ h => h
def fCons (f : Field) {fs : List Field} {off n : Nat} (ho : f.offset = off) (hn : P.cellsOf f.type = n) (V : View P f.type α) (F : Flds P fs (off + n) β) : Flds P (f :: fs) off (α × β) where
  R := fun w cs x => ∃ c d, cs = c ++ d ∧ V.R w c x.1 ∧ F.R w d x.2
  opens := fun {H enc w base spare held fuel cs} hoff hle hy h0 hlast => by
    obtain ⟨y, hy0⟩ := hy f (by simp)
    obtain ⟨a, ha⟩ := V.opens hy0
    have hl0 := hle f (by simp)
    rw [ho, hn] at hl0
    obtain ⟨b, hb⟩ := F.opens (cs := cs) hl0 (fun g hg => hle g (by simp [hg])) (fun g hg => hy g (by simp [hg])) (fun h => by subst h; have := hlast f (by simp); rw [ho, hn] at this; exact this.symm)
      (fun g hg => hlast g (by cases fs with | nil => simp at hg | cons z zs => rw [List.getLast?_cons_cons]; exact hg))
    refine ⟨(a, b), (cs.drop off).take n, cs.drop (off + n), ?_, ?_, hb⟩
    · rw [← List.drop_drop, List.take_append_drop]
    · rw [ho, hn] at ha; exact ha
  keeps := fun hk h => by
    obtain ⟨c, d, h1, h2, h3⟩ := h
    exact ⟨c, d, h1, V.keeps hk h2, F.keeps hk h3⟩
/-- the struct's cells end with its last field's -/
def fitsB (P : Program) (t : TypeId) (fs : List Field) : Bool := fs.all (fun f => decide (f.offset + P.cellsOf f.type ≤ P.cellsOf t)) && (match fs.getLast? with | some f => f.offset + P.cellsOf f.type == P.cellsOf t | none => P.cellsOf t == 0)
def vStruct {fs : Array Field} (ht : P.underlying t = some (.struct fs)) (hf : fitsB P t fs.toList = true) (F : Flds P fs.toList 0 α) : View P t α where
  R := F.R
  opens := fun {H enc w base spare held fuel cs x} h => by
    obtain ⟨xs, n, _, _, hl, hxl, hx⟩ := DataW.trod_struct ht h
    unfold fitsB at hf
    rw [Bool.and_eq_true] at hf
    obtain ⟨f1, f2⟩ := hf
    have := F.opens (enc := enc) (w := w) (base := base) (spare := spare) (held := held) (fuel := n) (cs := cs) (Nat.zero_le _)
      (fun f hf => by rw [hl]; exact of_decide_eq_true (List.all_eq_true.1 f1 f hf))
      (fun f hf => by
        obtain ⟨i, hi, e⟩ := List.getElem_of_mem hf
        have hi' : i < fs.size := by simpa using hi
        have z := hx i f (by rw [Array.getElem?_eq_getElem hi']; simp at e; rw [e])
        rw [z]
        exact ⟨_, List.getElem?_eq_getElem (by omega)⟩)
      (fun h0 => by rw [h0] at f2; simp at f2; rw [hl]; exact f2)
      (fun f hf => by rw [hf] at f2; simp at f2; rw [hl]; exact f2)
    simpa using this
  keeps := F.keeps
end
end Go.Proofs.Ytpolmnemknehaaa
