/- Part of the proof of RowTrieFolds: what it asks of functions, words and plain facts (put together by this session's own program, wip/tools/shake.py). -/
import Derived.Test.YtnihacajjpcjeaaZTrieFolds0
import Derived.Test.YtnihacajjpcjeaaZTrieFolds1
import Derived.Test.YtnihacajjpcjeaaZTrieFolds2
import Derived.Test.YtnihacajjpcjeaaZTrieFolds3
import Derived.Deep.Slices
import Derived.ChangeArms
import Derived.OpenShut
import Derived.SizedLaws
import Derived.KernelRfl
section
set_option linter.unusedVariables false
set_option linter.unusedSimpArgs false
namespace Go.Proofs.Ytnihacajjpcjeaa
open Go.ChangeShapes Go.WideShapes Go.Proofs.YtnihacajjpcjeaaW.PrintWords Go.Proofs.YtnihacajjpcjeaaW.PrintLast Go.Proofs.YtnihacajjpcjeaaW.PrintMore

/-- the ints of a kind -/
def okI (k : IntKind) (n : Int) : Prop := (Lit.int k n).wf = true
def okL {α : Type} (B : Nat) (ok : α → Prop) (l : List α) : Prop := l.length * B ≤ 140737488351232 ∧ ∀ x, x ∈ l → ok x
theorem okI_u32 {n : Int} (h : okI .u32 n) : 0 ≤ n ∧ n ≤ 4294967295 := by
  unfold okI Lit.wf at h; simp [IntKind.min, IntKind.max, IntKind.bits, IntKind.signed] at h; omega
/-- A reading of a type. -/
structure RV (P : Program) (t : TypeId) (α : Type) (d : Kd α) where
  ok : α → Prop
  sz : P.cellsOf t = d.sz
  opens : ∀ {H : Type} {enc : TypeId × Value → H} {w : World} {base : Nat} {spare : Nat → Bool} {held : Bool} {fuel : Nat} {cs : List Value} {x : DataW H × List MemPlace},
    DataW.trod enc P w base spare held fuel t cs = some x → (x.1.weights P t).all (· ≤ reachBytes) = true → ∃ a, d.K w a cs ∧ ok a
/-- A reading of a stretch of fields. -/
structure RF (P : Program) (fs : List Field) (off : Nat) (α : Type) where
  K : World → α → List Value → Prop
  ok : α → Prop
  opens : ∀ {H : Type} {enc : TypeId × Value → H} {w : World} {base : Nat} {spare : Nat → Bool} {held : Bool} {fuel : Nat} {cs : List Value} {ds : List (DataW H × List MemPlace)}, off ≤ cs.length →
    (∀ f, f ∈ fs → f.offset + P.cellsOf f.type ≤ cs.length) → (∀ (i : Nat) (f : Field), fs[i]? = some f → ∃ y, ds[i]? = some y ∧ DataW.trod enc P w base spare held fuel f.type ((cs.drop f.offset).take (P.cellsOf f.type)) = some y) →
    (DataW.weightsEach P (fs.map (·.type)) (ds.map (·.1))).all (· ≤ reachBytes) = true →
    (fs = [] → cs.length = off) → (∀ f, fs.getLast? = some f → f.offset + P.cellsOf f.type = cs.length) → ∃ a, K w a (cs.drop off) ∧ ok a

section
variable {P : Program} {t e : TypeId} {α β : Type} {d : Kd α}
def rInt (k : IntKind) (ht : P.underlying t = some (.int k)) (hc : P.cellsOf t = 1) : RV P t Int (Kd.int k) where
  ok := okI k
  sz := hc
  opens := fun h _ => by obtain ⟨n, h1, _, h3⟩ := DataW.trod_int ht h; exact ⟨n, h1, h3⟩
theorem RV.list_of_lt {n : Nat} {p : Nat → α → Prop} (h : ∀ i, i < n → ∃ x, p i x) : ∃ l : List α, l.length = n ∧ ∀ i x, l[i]? = some x → p i x := by
  rcases Nat.eq_zero_or_pos n with rfl | hn
  · exact ⟨[], rfl, fun i x hx => by simp at hx⟩
  · haveI : Inhabited α := ⟨Classical.choose (h 0 hn)⟩
    obtain ⟨f, hf⟩ := Go.Deep.choose_lt h
    refine ⟨(List.range n).map f, by simp, fun i x hx => ?_⟩
    have hi : i < n := by have := (List.getElem?_eq_some_iff.1 hx).1; simpa using this
    have e : ((List.range n).map f)[i]? = some (f i) := by simp [hi]
    rw [e] at hx
    cases hx
    exact hf i hi
theorem add_add_ (a : Addr) (p q : Nat) : (a.add p).add q = a.add (p + q) := by
  unfold Addr.add
  by_cases hp : p = 0
  · subst hp; simp
  · by_cases hq : q = 0
    · subst hq; simp [hp]
    · have : p + q ≠ 0 := by omega
      simp [hp, hq, this, Nat.add_assoc]
theorem weights_elem {H : Type} {P : Program} {e : TypeId} {l : List (DataW H)} {B : Nat} (h : (DataW.weightsAll P e l).all (· ≤ B) = true) {x : DataW H} (hx : x ∈ l) : (x.weights P e).all (· ≤ B) = true := by
  induction l with
  | nil => simp at hx
  | cons y l ih =>
    rw [DataW.weightsAll, List.all_append, Bool.and_eq_true] at h
    rcases List.mem_cons.1 hx with rfl | hx
    · exact h.1
    · exact ih h.2 hx
def rSlice {B : Nat} (ht : P.underlying t = some (.slice e)) (hc : P.cellsOf t = 1) (hB : P.bytesOf e = B) (hp : 0 < d.sz) (hB1 : 1 ≤ B) (V : RV P e α d) : RV P t (List α) (Kd.slice e d) where
  ok := okL B V.ok
  sz := hc
  opens := fun {H enc w base spare held fuel cs x} h hw => by
    rcases Go.Deep.open_slice ht h with ⟨h0, _⟩ | ⟨a, len, cap, m, f, D, Pl, h1, hb, hl, hm, hmm, hx, hcc⟩
    · exact ⟨[], ⟨none, 0, h0, Nat.le_refl _, ⟨rfl, by simp, fun h => absurd h (by simp)⟩⟩, by simp [okL]⟩
    · have hlm : len ≤ m := by rw [hmm]; split <;> omega
      have hw' := hw
      rw [hx] at hw'
      simp only [DataW.weights, ht, List.all_cons, List.length_map, List.length_range, Bool.and_eq_true, List.all_append] at hw'
      obtain ⟨w1, w2, _⟩ := hw'
      have w1' : (len + (m - len)) * B ≤ 140737488351232 := by rw [← hB]; exact of_decide_eq_true w1
      have one : ∀ i, i < len → ∃ x, ∃ cs', cs'.length = d.sz ∧ (∀ j u, cs'[j]? = some u → w.cell? (a.add (i * d.sz + j)) = some u) ∧ d.K w x cs' ∧ V.ok x := by
        intro i hi
        obtain ⟨cs', k1, k2⟩ := hcc i (by omega)
        obtain ⟨_, hlen, hcell⟩ := World.cells?_some k1
        have hwi := weights_elem w2 (List.mem_map.2 ⟨i, List.mem_range.2 hi, rfl⟩)
        obtain ⟨y, hy, hok⟩ := V.opens k2 hwi
        rw [V.sz] at hlen hcell
        refine ⟨y, cs', hlen, fun j u hj => ?_, hy, hok⟩
        have hj' : j < d.sz := by have := (List.getElem?_eq_some_iff.1 hj).1; omega
        have := hcell j hj'
        rw [add_add_, hj] at this
        exact this
      obtain ⟨l, hl', hall⟩ := RV.list_of_lt one
      have hlb : len ≤ 9223372036854775807 := by
        have : len * 1 ≤ (len + (m - len)) * B := Nat.mul_le_mul (by omega) hB1
        omega
      refine ⟨l, ⟨some a, cap, by rw [h1, hl'], by omega, ⟨rfl, by omega, fun _ => ⟨a, rfl, fun j p hj => ?_⟩⟩⟩, ?_, ?_⟩
      · obtain ⟨cs', q1, q2, q3, _⟩ := hall j p hj
        exact ⟨cs', q1, q3, q2⟩
      · rw [hl']
        exact Nat.le_trans (Nat.mul_le_mul_right _ (by omega)) w1'
      · intro x hx
        obtain ⟨i, hi⟩ := List.getElem?_of_mem hx
        obtain ⟨_, _, _, _, q⟩ := hall i x hi
        exact q
def fNil (off : Nat) : RF P [] off Unit where
  K := fun _ _ cs => cs = []
  ok := fun _ => True
  opens := fun _ _ _ _ h0 _ => ⟨(), by have := h0 rfl; simp [← this], trivial⟩
def fCons (f : Field) {fs : List Field} {off n : Nat} (ho : f.offset = off) (hn : P.cellsOf f.type = n) {d : Kd α} (V : RV P f.type α d) (F : RF P fs (off + n) β) : RF P (f :: fs) off (α × β) where
  K := fun w x cs => ∃ c c', cs = c ++ c' ∧ d.K w x.1 c ∧ F.K w x.2 c'
  ok := fun x => V.ok x.1 ∧ F.ok x.2
  opens := fun {H enc w base spare held fuel cs ds} hoff hle hy hw h0 hlast => by
    obtain ⟨y, hy1, hy0⟩ := hy 0 f rfl
    obtain ⟨ds, rfl⟩ : ∃ l, ds = y :: l := by
      cases ds with
      | nil => simp at hy1
      | cons z l => simp at hy1; subst hy1; exact ⟨l, rfl⟩
    rw [List.map_cons, List.map_cons, DataW.weightsEach, List.all_append, Bool.and_eq_true] at hw
    obtain ⟨a, ha, hka⟩ := V.opens hy0 hw.1
    have hl0 := hle f (by simp)
    rw [ho, hn] at hl0
    obtain ⟨b, hb, hkb⟩ := F.opens (cs := cs) (ds := ds) hl0 (fun g hg => hle g (by simp [hg])) (fun i g hg => hy (i + 1) g hg) hw.2 (fun h => by subst h; have := hlast f (by simp); rw [ho, hn] at this; exact this.symm)
      (fun g hg => hlast g (by cases fs with | nil => simp at hg | cons z zs => rw [List.getLast?_cons_cons]; exact hg))
    refine ⟨(a, b), ⟨(cs.drop off).take n, cs.drop (off + n), ?_, ?_, hb⟩, hka, hkb⟩
    · rw [← List.drop_drop, List.take_append_drop]
    · rw [ho, hn] at ha; exact ha
/-- the struct's cells end with its last field's -/
def fitsB (P : Program) (t : TypeId) (fs : List Field) : Bool := fs.all (fun f => decide (f.offset + P.cellsOf f.type ≤ P.cellsOf t)) && (match fs.getLast? with | some f => f.offset + P.cellsOf f.type == P.cellsOf t | none => P.cellsOf t == 0)
def rStruct {fs : Array Field} (ht : P.underlying t = some (.struct fs)) (hf : fitsB P t fs.toList = true) {d : Kd β} (hc : P.cellsOf t = d.sz) (F : RF P fs.toList 0 α) (f : α → β) (hK : ∀ w x cs, F.K w x cs → d.K w (f x) cs) (ok : β → Prop) (hok : ∀ x, F.ok x → ok (f x)) : RV P t β d where
  ok := ok
  sz := hc
  opens := fun {H enc w base spare held fuel cs x} h hw => by
    obtain ⟨xs, n, _, rfl, hl, hxl, hx⟩ := DataW.trod_struct ht h
    unfold fitsB at hf
    rw [Bool.and_eq_true] at hf
    obtain ⟨f1, f2⟩ := hf
    simp only [DataW.weights, ht] at hw
    obtain ⟨a, ha, hka⟩ := F.opens (enc := enc) (w := w) (base := base) (spare := spare) (held := held) (fuel := n) (cs := cs) (ds := xs) (Nat.zero_le _)
      (fun f hf => by rw [hl]; exact of_decide_eq_true (List.all_eq_true.1 f1 f hf))
      (fun i f hi => by
        have hi' : fs[i]? = some f := by rw [← Array.getElem?_toList]; exact hi
        have hlt : i < fs.size := by
          have := (List.getElem?_eq_some_iff.1 hi).1
          simpa using this
        have z := hx i f hi'
        rw [z]
        exact ⟨_, List.getElem?_eq_getElem (by omega), List.getElem?_eq_getElem (by omega)⟩)
      hw
      (fun h0 => by rw [h0] at f2; simp at f2; rw [hl]; exact f2)
      (fun f hf => by rw [hf] at f2; simp at f2; rw [hl]; exact f2)
    exact ⟨f a, hK _ _ _ (by simpa using ha), hok a hka⟩
end
end Go.Proofs.Ytnihacajjpcjeaa

end
section
namespace Go.Proofs.Ytnihacajjpcjeaa.P
open Go.Proofs.YtnihacajjpcjeaaW.PrintWords Go.Proofs.YtnihacajjpcjeaaW.PrintLast Go.Proofs.YtnihacajjpcjeaaW.PrintMore
set_option linter.unusedVariables false
def r3 : RV Try.prog 3 Int (Kd.int .i64) := rInt .i64 Try.underlying3 (by kernel_rfl)
def r32 : RV Try.prog 32 Int (Kd.int .u32) := rInt .u32 Try.underlying32 (by kernel_rfl)
def ok34 (x : S34) : Prop := (okI .u32) x.f0 ∧ (okI .i64) x.f1
def r34 : RV Try.prog 34 S34 k34 := rStruct Try.underlying34 (by kernel_rfl) (by kernel_rfl) (fCons (n := 1) _ rfl (by kernel_rfl) r32 (fCons (n := 1) _ rfl (by kernel_rfl) r3 (fNil _))) (fun x => ⟨x.1, x.2.1⟩) (by rintro w x cs ⟨c0, _, rfl, h0, c1, _, rfl, h1, rfl⟩; exact ⟨c0, _, rfl, h0, (by rw [List.append_nil]; exact h1)⟩) ok34 (fun x h => ⟨h.1, h.2.1⟩)
def ok61 (x : S61) : Prop := (okI .i64) x.f0 ∧ (okI .i64) x.f1 ∧ (ok34) x.f2 ∧ (okI .u32) x.f3
def r61 : RV Try.prog 61 S61 k61 := rStruct Try.underlying61 (by kernel_rfl) (by kernel_rfl) (fCons (n := 1) _ rfl (by kernel_rfl) r3 (fCons (n := 1) _ rfl (by kernel_rfl) r3 (fCons (n := 2) _ rfl (by kernel_rfl) r34 (fCons (n := 1) _ rfl (by kernel_rfl) r32 (fNil _))))) (fun x => ⟨x.1, x.2.1, x.2.2.1, x.2.2.2.1⟩) (by rintro w x cs ⟨c0, _, rfl, h0, c1, _, rfl, h1, c2, _, rfl, h2, c3, _, rfl, h3, rfl⟩; exact ⟨c0, _, rfl, h0, ⟨c1, _, rfl, h1, ⟨c2, _, rfl, h2, (by rw [List.append_nil]; exact h3)⟩⟩⟩) ok61 (fun x h => ⟨h.1, h.2.1, h.2.2.1, h.2.2.2.1⟩)
def r22 : RV Try.prog 22 (List (S61)) (Kd.slice 61 k61) := rSlice (B := 40) Try.underlying22 (by kernel_rfl) (by kernel_rfl) (by decide) (by decide) r61
end Go.Proofs.Ytnihacajjpcjeaa.P

end
section
namespace Go.Proofs.Ytnihacajjpcjeaa.Pure
open Go.RowKit Go.Proofs.Ytnihacajjpcjeaa.P Go.Proofs.YtnihacajjpcjeaaW.PrintWords Go.Proofs.YtnihacajjpcjeaaW.PrintLast Go.Proofs.YtnihacajjpcjeaaW.PrintMore
set_option linter.unusedVariables false

theorem TrieFolds (x0 : List (S61)) (ok_0 : (okL 40 (ok61)) x0) : ∃ k, Go.Proofs.Ytnihacajjpcjeaa.P.whirligiglaw06_TrieFolds.f k x0 = some true := by
  have h : whirligiglaw06_TrieFolds.f 0 x0 = some true := by
    unfold whirligiglaw06_TrieFolds.f
    refine if_pos ?_
    simp only [Bool.and_eq_true, List.all_eq_true, decide_eq_true_eq]
    exact fun x hx => okI_u32 (ok_0.2 x hx).2.2.1.1
  exact ⟨0, h⟩
end Go.Proofs.Ytnihacajjpcjeaa.Pure

end
