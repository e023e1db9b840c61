/- Part of the proof of RowWirePrefixes: what it asks of functions, words and plain facts (put together by this session's own program, wip/tools/shake.py). -/
import Derived.Test.YtjmpojfpbhihpaaZWirePrefixes0
import Derived.Test.YtjmpojfpbhihpaaZWirePrefixes1
import Derived.Test.YtjmpojfpbhihpaaZWirePrefixes2
import Derived.Deep.Slices
import Derived.ChangeArms
import Derived.OpenShut
import Derived.SizedLaws
import Derived.KernelRfl
import Derived.Laws.BytesString
import Derived.Laws.IdiomStrings
import Derived.Laws.BitsLemmas
import Derived.Lib.Bytes
section
set_option linter.unusedVariables false
set_option linter.unusedSimpArgs false
namespace Go.Proofs.Ytjmpojfpbhihpaa
open Go.ChangeShapes Go.WideShapes Go.Proofs.YtjmpojfpbhihpaaW.PrintWords Go.Proofs.YtjmpojfpbhihpaaW.PrintLast Go.Proofs.YtjmpojfpbhihpaaW.PrintMore

/-- the ints of a kind -/
def okI (k : IntKind) (n : Int) : Prop := (Lit.int k n).wf = true
def okL {α : Type} (B : Nat) (ok : α → Prop) (l : List α) : Prop := l.length * B ≤ 140737488351232 ∧ ∀ x, x ∈ l → ok x
theorem okI_i64 {n : Int} (h : okI .i64 n) : -9223372036854775808 ≤ n ∧ n ≤ 9223372036854775807 := by
  unfold okI Lit.wf at h; simp [IntKind.min, IntKind.max, IntKind.bits, IntKind.signed] at h; omega
theorem okI_u32 {n : Int} (h : okI .u32 n) : 0 ≤ n ∧ n ≤ 4294967295 := by
  unfold okI Lit.wf at h; simp [IntKind.min, IntKind.max, IntKind.bits, IntKind.signed] at h; omega
/-- A reading of a type. -/
structure RV (P : Program) (t : TypeId) (α : Type) (d : Kd α) where
  ok : α → Prop
  sz : P.cellsOf t = d.sz
  opens : ∀ {H : Type} {enc : TypeId × Value → H} {w : World} {base : Nat} {spare : Nat → Bool} {held : Bool} {fuel : Nat} {cs : List Value} {x : DataW H × List MemPlace},
    DataW.trod enc P w base spare held fuel t cs = some x → (x.1.weights P t).all (· ≤ reachBytes) = true → ∃ a, d.K w a cs ∧ ok a
/-- A reading of a stretch of fields. -/
structure RF (P : Program) (fs : List Field) (off : Nat) (α : Type) where
  K : World → α → List Value → Prop
  ok : α → Prop
  opens : ∀ {H : Type} {enc : TypeId × Value → H} {w : World} {base : Nat} {spare : Nat → Bool} {held : Bool} {fuel : Nat} {cs : List Value} {ds : List (DataW H × List MemPlace)}, off ≤ cs.length →
    (∀ f, f ∈ fs → f.offset + P.cellsOf f.type ≤ cs.length) → (∀ (i : Nat) (f : Field), fs[i]? = some f → ∃ y, ds[i]? = some y ∧ DataW.trod enc P w base spare held fuel f.type ((cs.drop f.offset).take (P.cellsOf f.type)) = some y) →
    (DataW.weightsEach P (fs.map (·.type)) (ds.map (·.1))).all (· ≤ reachBytes) = true →
    (fs = [] → cs.length = off) → (∀ f, fs.getLast? = some f → f.offset + P.cellsOf f.type = cs.length) → ∃ a, K w a (cs.drop off) ∧ ok a

section
variable {P : Program} {t e : TypeId} {α β : Type} {d : Kd α}
def rInt (k : IntKind) (ht : P.underlying t = some (.int k)) (hc : P.cellsOf t = 1) : RV P t Int (Kd.int k) where
  ok := okI k
  sz := hc
  opens := fun h _ => by obtain ⟨n, h1, _, h3⟩ := DataW.trod_int ht h; exact ⟨n, h1, h3⟩
theorem RV.list_of_lt {n : Nat} {p : Nat → α → Prop} (h : ∀ i, i < n → ∃ x, p i x) : ∃ l : List α, l.length = n ∧ ∀ i x, l[i]? = some x → p i x := by
  rcases Nat.eq_zero_or_pos n with rfl | hn
  · exact ⟨[], rfl, fun i x hx => by simp at hx⟩
  · haveI : Inhabited α := ⟨Classical.choose (h 0 hn)⟩
    obtain ⟨f, hf⟩ := Go.Deep.choose_lt h
    refine ⟨(List.range n).map f, by simp, fun i x hx => ?_⟩
    have hi : i < n := by have := (List.getElem?_eq_some_iff.1 hx).1; simpa using this
    have e : ((List.range n).map f)[i]? = some (f i) := by simp [hi]
    rw [e] at hx
    cases hx
    exact hf i hi
theorem add_add_ (a : Addr) (p q : Nat) : (a.add p).add q = a.add (p + q) := by
  unfold Addr.add
  by_cases hp : p = 0
  · subst hp; simp
  · by_cases hq : q = 0
    · subst hq; simp [hp]
    · have : p + q ≠ 0 := by omega
      simp [hp, hq, this, Nat.add_assoc]
theorem weights_elem {H : Type} {P : Program} {e : TypeId} {l : List (DataW H)} {B : Nat} (h : (DataW.weightsAll P e l).all (· ≤ B) = true) {x : DataW H} (hx : x ∈ l) : (x.weights P e).all (· ≤ B) = true := by
  induction l with
  | nil => simp at hx
  | cons y l ih =>
    rw [DataW.weightsAll, List.all_append, Bool.and_eq_true] at h
    rcases List.mem_cons.1 hx with rfl | hx
    · exact h.1
    · exact ih h.2 hx
def rSlice {B : Nat} (ht : P.underlying t = some (.slice e)) (hc : P.cellsOf t = 1) (hB : P.bytesOf e = B) (hp : 0 < d.sz) (hB1 : 1 ≤ B) (V : RV P e α d) : RV P t (List α) (Kd.slice e d) where
  ok := okL B V.ok
  sz := hc
  opens := fun {H enc w base spare held fuel cs x} h hw => by
    rcases Go.Deep.open_slice ht h with ⟨h0, _⟩ | ⟨a, len, cap, m, f, D, Pl, h1, hb, hl, hm, hmm, hx, hcc⟩
    · exact ⟨[], ⟨none, 0, h0, Nat.le_refl _, ⟨rfl, by simp, fun h => absurd h (by simp)⟩⟩, by simp [okL]⟩
    · have hlm : len ≤ m := by rw [hmm]; split <;> omega
      have hw' := hw
      rw [hx] at hw'
      simp only [DataW.weights, ht, List.all_cons, List.length_map, List.length_range, Bool.and_eq_true, List.all_append] at hw'
      obtain ⟨w1, w2, _⟩ := hw'
      have w1' : (len + (m - len)) * B ≤ 140737488351232 := by rw [← hB]; exact of_decide_eq_true w1
      have one : ∀ i, i < len → ∃ x, ∃ cs', cs'.length = d.sz ∧ (∀ j u, cs'[j]? = some u → w.cell? (a.add (i * d.sz + j)) = some u) ∧ d.K w x cs' ∧ V.ok x := by
        intro i hi
        obtain ⟨cs', k1, k2⟩ := hcc i (by omega)
        obtain ⟨_, hlen, hcell⟩ := World.cells?_some k1
        have hwi := weights_elem w2 (List.mem_map.2 ⟨i, List.mem_range.2 hi, rfl⟩)
        obtain ⟨y, hy, hok⟩ := V.opens k2 hwi
        rw [V.sz] at hlen hcell
        refine ⟨y, cs', hlen, fun j u hj => ?_, hy, hok⟩
        have hj' : j < d.sz := by have := (List.getElem?_eq_some_iff.1 hj).1; omega
        have := hcell j hj'
        rw [add_add_, hj] at this
        exact this
      obtain ⟨l, hl', hall⟩ := RV.list_of_lt one
      have hlb : len ≤ 9223372036854775807 := by
        have : len * 1 ≤ (len + (m - len)) * B := Nat.mul_le_mul (by omega) hB1
        omega
      refine ⟨l, ⟨some a, cap, by rw [h1, hl'], by omega, ⟨rfl, by omega, fun _ => ⟨a, rfl, fun j p hj => ?_⟩⟩⟩, ?_, ?_⟩
      · obtain ⟨cs', q1, q2, q3, _⟩ := hall j p hj
        exact ⟨cs', q1, q3, q2⟩
      · rw [hl']
        exact Nat.le_trans (Nat.mul_le_mul_right _ (by omega)) w1'
      · intro x hx
        obtain ⟨i, hi⟩ := List.getElem?_of_mem hx
        obtain ⟨_, _, _, _, q⟩ := hall i x hi
        exact q
def fNil (off : Nat) : RF P [] off Unit where
  K := fun _ _ cs => cs = []
  ok := fun _ => True
  opens := fun _ _ _ _ h0 _ => ⟨(), by have := h0 rfl; simp [← this], trivial⟩
def fCons (f : Field) {fs : List Field} {off n : Nat} (ho : f.offset = off) (hn : P.cellsOf f.type = n) {d : Kd α} (V : RV P f.type α d) (F : RF P fs (off + n) β) : RF P (f :: fs) off (α × β) where
  K := fun w x cs => ∃ c c', cs = c ++ c' ∧ d.K w x.1 c ∧ F.K w x.2 c'
  ok := fun x => V.ok x.1 ∧ F.ok x.2
  opens := fun {H enc w base spare held fuel cs ds} hoff hle hy hw h0 hlast => by
    obtain ⟨y, hy1, hy0⟩ := hy 0 f rfl
    obtain ⟨ds, rfl⟩ : ∃ l, ds = y :: l := by
      cases ds with
      | nil => simp at hy1
      | cons z l => simp at hy1; subst hy1; exact ⟨l, rfl⟩
    rw [List.map_cons, List.map_cons, DataW.weightsEach, List.all_append, Bool.and_eq_true] at hw
    obtain ⟨a, ha, hka⟩ := V.opens hy0 hw.1
    have hl0 := hle f (by simp)
    rw [ho, hn] at hl0
    obtain ⟨b, hb, hkb⟩ := F.opens (cs := cs) (ds := ds) hl0 (fun g hg => hle g (by simp [hg])) (fun i g hg => hy (i + 1) g hg) hw.2 (fun h => by subst h; have := hlast f (by simp); rw [ho, hn] at this; exact this.symm)
      (fun g hg => hlast g (by cases fs with | nil => simp at hg | cons z zs => rw [List.getLast?_cons_cons]; exact hg))
    refine ⟨(a, b), ⟨(cs.drop off).take n, cs.drop (off + n), ?_, ?_, hb⟩, hka, hkb⟩
    · rw [← List.drop_drop, List.take_append_drop]
    · rw [ho, hn] at ha; exact ha
/-- the struct's cells end with its last field's -/
def fitsB (P : Program) (t : TypeId) (fs : List Field) : Bool := fs.all (fun f => decide (f.offset + P.cellsOf f.type ≤ P.cellsOf t)) && (match fs.getLast? with | some f => f.offset + P.cellsOf f.type == P.cellsOf t | none => P.cellsOf t == 0)
def rStruct {fs : Array Field} (ht : P.underlying t = some (.struct fs)) (hf : fitsB P t fs.toList = true) {d : Kd β} (hc : P.cellsOf t = d.sz) (F : RF P fs.toList 0 α) (f : α → β) (hK : ∀ w x cs, F.K w x cs → d.K w (f x) cs) (ok : β → Prop) (hok : ∀ x, F.ok x → ok (f x)) : RV P t β d where
  ok := ok
  sz := hc
  opens := fun {H enc w base spare held fuel cs x} h hw => by
    obtain ⟨xs, n, _, rfl, hl, hxl, hx⟩ := DataW.trod_struct ht h
    unfold fitsB at hf
    rw [Bool.and_eq_true] at hf
    obtain ⟨f1, f2⟩ := hf
    simp only [DataW.weights, ht] at hw
    obtain ⟨a, ha, hka⟩ := F.opens (enc := enc) (w := w) (base := base) (spare := spare) (held := held) (fuel := n) (cs := cs) (ds := xs) (Nat.zero_le _)
      (fun f hf => by rw [hl]; exact of_decide_eq_true (List.all_eq_true.1 f1 f hf))
      (fun i f hi => by
        have hi' : fs[i]? = some f := by rw [← Array.getElem?_toList]; exact hi
        have hlt : i < fs.size := by
          have := (List.getElem?_eq_some_iff.1 hi).1
          simpa using this
        have z := hx i f hi'
        rw [z]
        exact ⟨_, List.getElem?_eq_getElem (by omega), List.getElem?_eq_getElem (by omega)⟩)
      hw
      (fun h0 => by rw [h0] at f2; simp at f2; rw [hl]; exact f2)
      (fun f hf => by rw [hf] at f2; simp at f2; rw [hl]; exact f2)
    exact ⟨f a, hK _ _ _ (by simpa using ha), hok a hka⟩
end
end Go.Proofs.Ytjmpojfpbhihpaa

end
section
namespace Go.Proofs.Ytjmpojfpbhihpaa.P
open Go.Proofs.YtjmpojfpbhihpaaW.PrintWords Go.Proofs.YtjmpojfpbhihpaaW.PrintLast Go.Proofs.YtjmpojfpbhihpaaW.PrintMore
set_option linter.unusedVariables false
def r5 : RV Try.prog 5 Int (Kd.int .u8) := rInt .u8 Try.underlying5 (by kernel_rfl)
def r22 : RV Try.prog 22 (List (Int)) (Kd.slice 5 (Kd.int .u8)) := rSlice (B := 1) Try.underlying22 (by kernel_rfl) (by kernel_rfl) (by decide) (by decide) r5
def r3 : RV Try.prog 3 Int (Kd.int .i64) := rInt .i64 Try.underlying3 (by kernel_rfl)
def r23 : RV Try.prog 23 Int (Kd.int .u32) := rInt .u32 Try.underlying23 (by kernel_rfl)
def ok25 (x : S25) : Prop := (okI .u32) x.f0 ∧ (okI .i64) x.f1
def r25 : RV Try.prog 25 S25 k25 := rStruct Try.underlying25 (by kernel_rfl) (by kernel_rfl) (fCons (n := 1) _ rfl (by kernel_rfl) r23 (fCons (n := 1) _ rfl (by kernel_rfl) r3 (fNil _))) (fun x => ⟨x.1, x.2.1⟩) (by rintro w x cs ⟨c0, _, rfl, h0, c1, _, rfl, h1, rfl⟩; exact ⟨c0, _, rfl, h0, (by rw [List.append_nil]; exact h1)⟩) ok25 (fun x h => ⟨h.1, h.2.1⟩)
end Go.Proofs.Ytjmpojfpbhihpaa.P

end
section
set_option linter.unusedVariables false
set_option linter.unusedSimpArgs false
namespace Go.Proofs.Ytjmpojfpbhihpaa
open Go.RowKit Go.Proofs.YtjmpojfpbhihpaaW.PrintWords Go.Proofs.YtjmpojfpbhihpaaW.PrintLast Go.Proofs.YtjmpojfpbhihpaaW.PrintMore

/-- with rounds enough, r comes out -/
def Evt {α : Type} (g : Nat → Option α) (r : α) : Prop := ∃ K, ∀ k, K ≤ k → g k = some r
theorem Evt.ex {α : Type} {g : Nat → Option α} {r : α} (h : Evt g r) : ∃ k, g k = some r := h.imp fun K hK => hK K (Nat.le_refl _)
theorem Evt.pure {α : Type} (r : α) : Evt (fun _ => some r) r := ⟨0, fun _ _ => rfl⟩
theorem Evt.of {α : Type} {g : Nat → Option α} {r : α} (h : ∀ k, g k = some r) : Evt g r := ⟨0, fun k _ => h k⟩
theorem Evt.bind {α β : Type} {g : Nat → Option α} {f : Nat → α → Option β} {a : α} {b : β} (h : Evt g a) (h2 : Evt (fun k => f k a) b) : Evt (fun k => (g k).bind (f k)) b := by
  obtain ⟨K, h⟩ := h
  obtain ⟨L, h2⟩ := h2
  exact ⟨max K L, fun k hk => by show (g k).bind (f k) = some b; rw [h k (by omega)]; exact h2 k (by omega)⟩
theorem Evt.bindc {α β : Type} {o : Option α} {f : Nat → α → Option β} {a : α} {b : β} (h : o = some a) (h2 : Evt (fun k => f k a) b) : Evt (fun k => o.bind (f k)) b := by
  subst h; exact h2
theorem Evt.step {α : Type} {g : Nat → Option α} {r : α} (h : Evt (fun k => g (k + 1)) r) : Evt g r := by
  obtain ⟨K, h⟩ := h
  refine ⟨K + 1, fun k hk => ?_⟩
  obtain ⟨k, rfl⟩ : ∃ m, k = m + 1 := ⟨k - 1, by omega⟩
  exact h k (by omega)
theorem Evt.ite_pos {α : Type} {c : Prop} [Decidable c] {x y : Nat → Option α} {r : α} (hc : c) (h : Evt x r) : Evt (fun k => if c then x k else y k) r := by
  simp only [if_pos hc]; exact h
theorem Evt.ite_neg {α : Type} {c : Prop} [Decidable c] {x y : Nat → Option α} {r : α} (hc : ¬ c) (h : Evt y r) : Evt (fun k => if c then x k else y k) r := by
  simp only [if_neg hc]; exact h
theorem Evt.of_mono {α : Type} {g : Nat → Option α} {r : α} {K : Nat} (hm : ∀ k, LeO (g k) (g (k + 1))) (h : g K = some r) : Evt g r := by
  refine ⟨K, fun k hk => ?_⟩
  obtain ⟨d, rfl⟩ : ∃ d, k = K + d := ⟨k - K, by omega⟩
  clear hk
  induction d with
  | zero => exact h
  | succ d ih => exact hm _ _ ih
theorem wrap64_in (x : Int) (h0 : -9223372036854775808 ≤ x) (h1 : x ≤ 9223372036854775807) : wrap64 x = x := by unfold wrap64; omega

theorem mask_not (n : Nat) (hn : n ≤ 32) : ~~~(BitVec.ofInt 32 (4294967296 - 2 ^ n)) = BitVec.ofNat 32 (2 ^ n - 1) := by
  have : ∀ n : Fin 33, ~~~(BitVec.ofInt 32 (4294967296 - 2 ^ n.val)) = BitVec.ofNat 32 (2 ^ n.val - 1) := by decide +kernel
  exact this ⟨n, by omega⟩
theorem shl_all (n : Nat) (hn : n ≤ 32) : shl .u32 4294967295 n = 4294967296 - 2 ^ n := by
  have : ∀ n : Fin 33, 0 < n.val → shl .u32 4294967295 n.val = 4294967296 - 2 ^ n.val := by decide +kernel
  rcases Nat.eq_zero_or_pos n with rfl | h
  · decide +kernel
  · exact this ⟨n, by omega⟩ h
theorem ofN (x : Nat) : BitVec.ofInt 32 (x : Int) = BitVec.ofNat 32 x := by simp
theorem andNot_mask (a : Int) (n : Nat) (h0 : 0 ≤ a) (h1 : a < 4294967296) (hn : n ≤ 32) : bits .andNot .u32 a (4294967296 - 2 ^ n) = a % 2 ^ n := by
  obtain ⟨x, rfl⟩ := Int.eq_ofNat_of_zero_le h0
  show IntKind.u32.wrap ((BitVec.ofInt 32 (x : Int) &&& ~~~ BitVec.ofInt 32 (4294967296 - 2 ^ n)).toNat : Int) = _
  rw [mask_not n hn, IntKind.wrap_u32, ofN, BitVec.toNat_and, BitVec.toNat_ofNat, BitVec.toNat_ofNat]
  have hx : x % 2 ^ 32 = x := Nat.mod_eq_of_lt (by omega)
  have hp : 2 ^ n ≤ 2 ^ 32 := Nat.pow_le_pow_right (by decide) hn
  have hpos : 0 < 2 ^ n := Nat.two_pow_pos n
  have hq : (2 ^ n - 1) % 2 ^ 32 = 2 ^ n - 1 := Nat.mod_eq_of_lt (by omega)
  rw [hx, hq, Nat.and_two_pow_sub_one_eq_mod]
  have : x % 2 ^ n < 2 ^ n := Nat.mod_lt _ hpos
  have hz : (((x % 2 ^ n : Nat) : Int)) = (x : Int) % 2 ^ n := by simp
  rw [← hz]
  omega
theorem or_join (x y : Int) (n : Nat) (hn : n ≤ 32) (hx₀ : 0 ≤ x) (hx : x % 2 ^ n = 0) (hx₁ : x < 4294967296) (hy₀ : 0 ≤ y) (hy : y < 2 ^ n) : bits .or .u32 x y = x + y := by
  have hp : (2 : Int) ^ n ≤ 2 ^ 32 := by
    have := Nat.pow_le_pow_right (n := 2) (by decide) hn
    have h2 : (((2 : Nat) ^ n : Nat) : Int) ≤ (((2 : Nat) ^ 32 : Nat) : Int) := by exact_mod_cast this
    simpa using h2
  exact bits_join .u32 32 (by decide) (fun n h0 h1 => by rw [IntKind.wrap_u32]; omega) n x y hx₀ hx (by omega) hy₀ hy (by omega)
end Go.Proofs.Ytjmpojfpbhihpaa

end
section
set_option linter.unusedVariables false
set_option linter.unusedSimpArgs false
namespace Go.Proofs.Ytjmpojfpbhihpaa.P
open Go.RowKit Go.Proofs.YtjmpojfpbhihpaaW.PrintWords Go.Proofs.YtjmpojfpbhihpaaW.PrintLast Go.Proofs.YtjmpojfpbhihpaaW.PrintMore

theorem lives_ev : Evt (fun k => whirligiglaw10_lives.f k) true := by
  refine Evt.of_mono (K := 12) (fun k => whirligiglaw10_lives.mono k) ?_
  decide +kernel
theorem son_app (a b : List Int) : strOfNums a ++ strOfNums b = strOfNums (a ++ b) := by
  unfold strOfNums
  rw [app_list, List.map_append]
/-- bytes -/
def U8 (B : List Int) : Prop := ∀ x, x ∈ B → 0 ≤ x ∧ x ≤ 255
theorem U8.drop {B : List Int} (h : U8 B) (n : Nat) : U8 (B.drop n) := fun x hx => h x (List.mem_of_mem_drop hx)
theorem U8.take {B : List Int} (h : U8 B) (n : Nat) : U8 (B.take n) := fun x hx => h x (List.mem_of_mem_take hx)
theorem U8.at {B : List Int} (h : U8 B) (i : Nat) : 0 ≤ B.getD i 0 ∧ B.getD i 0 ≤ 255 := by
  rw [List.getD_eq_getElem?_getD]
  cases hc : B[i]? with
  | none => exact ⟨by simp, by simp⟩
  | some x => exact h x (List.mem_of_getElem? hc)
theorem rd_drop (B : List Int) (at_ j : Nat) : rd B ((at_ : Int) + (j : Int)) = (B.drop at_).getD j 0 := by
  unfold rd
  rw [show ((at_ : Int) + (j : Int)).toNat = at_ + j by omega, List.getD_eq_getElem?_getD, List.getD_eq_getElem?_getD, List.getElem?_drop]
end Go.Proofs.Ytjmpojfpbhihpaa.P

end
section
set_option linter.unusedVariables false
set_option linter.unusedSimpArgs false
namespace Go.Proofs.Ytjmpojfpbhihpaa.P
open Go.RowKit Go.Proofs.YtjmpojfpbhihpaaW.PrintWords Go.Proofs.YtjmpojfpbhihpaaW.PrintLast Go.Proofs.YtjmpojfpbhihpaaW.PrintMore

/-- how many addresses a prefix of so many bits has -/
def un (b : Int) : Int := 2 ^ (32 - b).toNat
theorem un_pos (b : Int) : 0 < un b := by
  unfold un
  have := Nat.two_pow_pos (32 - b).toNat
  have h2 : (0 : Int) < (((2 : Nat) ^ (32 - b).toNat : Nat) : Int) := by exact_mod_cast this
  simpa using h2
theorem un_succ (b : Int) (h : b < 32) : un b = 2 * un (b + 1) := by
  unfold un
  rw [show (32 - b).toNat = (32 - (b + 1)).toNat + 1 by omega, Int.pow_succ]; omega
/-- an address -/
def isA (a : Int) : Prop := 0 ≤ a ∧ a ≤ 4294967295
/-- may a prefix be? -/
def mayB (a b : Int) : Bool := decide (0 ≤ b) && (decide (b ≤ 32) && decide (a % un b = 0))
theorem mayB_iff (a b : Int) : mayB a b = true ↔ 0 ≤ b ∧ b ≤ 32 ∧ a % un b = 0 := by
  unfold mayB; simp
theorem mask_is (b : Int) (h0 : 0 ≤ b) (h1 : b ≤ 32) : addr_mask.f b = some (4294967296 - un b) := by
  unfold addr_mask.f
  by_cases h : b = 0
  · subst h; rfl
  · rw [if_neg h, wrap64_in _ (by omega) (by omega), if_pos (by omega)]
    have := shl_all (32 - b).toNat (by omega)
    rw [show (((32 - b).toNat : Nat) : Int) = 32 - b by omega] at this
    rw [this]; rfl
theorem may_is (a b : Int) (ha : isA a) : addr_May.f a b = some (mayB a b) := by
  unfold addr_May.f mayB
  by_cases h0 : 0 ≤ b
  · rw [if_pos h0]
    by_cases h1 : b ≤ 32
    · rw [if_pos h1, mask_is b h0 h1, Option.bind_some]
      have := andNot_mask a (32 - b).toNat ha.1 (by have := ha.2; omega) (by omega)
      unfold un
      rw [this]
      simp [h0, h1]
      rfl
    · rw [if_neg h1]; simp [h0, h1]
  · rw [if_neg h0]; simp [h0]
end Go.Proofs.Ytjmpojfpbhihpaa.P

end
section
set_option linter.unusedVariables false
set_option linter.unusedSimpArgs false
namespace Go.Proofs.Ytjmpojfpbhihpaa.P
open Go.RowKit Go.Proofs.YtjmpojfpbhihpaaW.PrintWords Go.Proofs.YtjmpojfpbhihpaaW.PrintLast Go.Proofs.YtjmpojfpbhihpaaW.PrintMore

/-- the bit of an address at a place -/
def bitI (a i : Int) : Int := a / un (i + 1) % 2
theorem bit_ev : ∀ (d : Nat) (a i : Int), 0 ≤ a → a ≤ 4294967295 → 0 ≤ i → i ≤ 31 → 31 - i = d → Evt (fun k => whirligigref01_Bit.l0 k a i) (bitI a i) := by
  intro d
  induction d with
  | zero =>
    intro a i h0 h1 h2 h3 hd
    obtain rfl : i = 31 := by omega
    refine Evt.step ?_
    simp only [whirligigref01_Bit.l0]
    refine Evt.ite_neg (by omega) (Evt.of fun k => ?_)
    unfold bitI un
    rw [Int.tmod_eq_emod_of_nonneg h0]
    simp
  | succ d ih =>
    intro a i h0 h1 h2 h3 hd
    refine Evt.step ?_
    simp only [whirligigref01_Bit.l0]
    refine Evt.ite_pos (by omega) ?_
    rw [Int.tdiv_eq_ediv_of_nonneg h0, wrap64_in _ (by omega) (by omega), Int.emod_eq_of_lt (by omega) (by omega)]
    have := ih (a / 2) (i + 1) (by omega) (by omega) (by omega) (by omega) (by omega)
    have e : bitI (a / 2) (i + 1) = bitI a i := by
      unfold bitI
      rw [un_succ (i + 1) (by omega), Int.ediv_ediv_of_nonneg (by decide)]
    rw [e] at this
    exact this
theorem refBit_ev (a i : Int) (ha : isA a) (h2 : 0 ≤ i) (h3 : i ≤ 31) : Evt (fun k => whirligigref01_Bit.f k a i) (bitI a i) :=
  bit_ev (31 - i).toNat a i ha.1 ha.2 h2 h3 (by omega)
theorem mod_un (a i : Int) (h : 0 ≤ a) (h1 : i ≤ 31) : a % un i = a % un (i + 1) + un (i + 1) * bitI a i := by
  have hp := un_pos (i + 1)
  rw [un_succ i (by omega)]
  unfold bitI
  have e1 := Int.emod_add_mul_ediv a (un (i + 1))
  have e2 := Int.emod_add_mul_ediv a (2 * un (i + 1))
  have e3 := Int.emod_add_mul_ediv (a / un (i + 1)) 2
  have e4 : a / un (i + 1) / 2 = a / (2 * un (i + 1)) := by rw [Int.ediv_ediv_of_nonneg (Int.le_of_lt hp), Int.mul_comm]
  rw [e4] at e3
  generalize a / (2 * un (i + 1)) = q at *
  generalize a / un (i + 1) % 2 = s at *
  generalize a / un (i + 1) = p at *
  generalize un (i + 1) = u at *
  have e5 : u * p = u * s + 2 * u * q := by
    rw [← e3, Int.mul_add, ← Int.mul_assoc, Int.mul_comm u 2]
  omega
theorem refMayLoop_ev : ∀ (d : Nat) (a i b : Int), isA a → 0 ≤ i → i ≤ 32 → 32 - i = d → Evt (fun k => whirligigref01_May.l0 k i a b) (decide (a % un i = 0)) := by
  intro d
  induction d with
  | zero =>
    intro a i b ha h0 h1 hd
    obtain rfl : i = 32 := by omega
    refine Evt.step ?_
    simp only [whirligigref01_May.l0]
    refine Evt.ite_neg (by omega) (Evt.of fun k => ?_)
    have : a % un 32 = 0 := by show a % 1 = 0; omega
    rw [this]; rfl
  | succ d ih =>
    intro a i b ha h0 h1 hd
    refine Evt.step ?_
    simp only [whirligigref01_May.l0]
    refine Evt.ite_pos (by omega) ?_
    refine Evt.bind (refBit_ev a i ha h0 (by omega)) ?_
    have hm := mod_un a i ha.1 (by omega)
    have hp := un_pos (i + 1)
    have hr : 0 ≤ a % un (i + 1) := Int.emod_nonneg _ (by omega)
    by_cases hb : bitI a i = 0
    · refine Evt.ite_pos hb ?_
      rw [wrap64_in _ (by omega) (by omega)]
      have := ih a (i + 1) b ha (by omega) (by omega) (by omega)
      rw [hb, Int.mul_zero, Int.add_zero] at hm
      rw [hm]; exact this
    · refine Evt.ite_neg hb (Evt.of fun k => ?_)
      have hb1 : bitI a i = 1 := by unfold bitI at *; omega
      rw [hb1, Int.mul_one] at hm
      rw [decide_eq_false (by omega)]
theorem refMay_ev (a b : Int) (ha : isA a) : Evt (fun k => whirligigref01_May.f k a b) (mayB a b) := by
  unfold whirligigref01_May.f mayB
  by_cases h0 : b < 0
  · refine Evt.ite_pos h0 (Evt.step ?_)
    simp only [whirligigref01_May.j0]
    refine Evt.ite_pos (by simp) (Evt.of fun k => ?_)
    rw [decide_eq_false (by omega : ¬ 0 ≤ b)]; rfl
  · refine Evt.ite_neg h0 (Evt.step ?_)
    simp only [whirligigref01_May.j0]
    by_cases h1 : b > 32
    · refine Evt.ite_pos (decide_eq_true h1) (Evt.of fun k => ?_)
      rw [decide_eq_false (by omega : ¬ b ≤ 32)]; simp
    · refine Evt.ite_neg (by simpa using h1) ?_
      have := refMayLoop_ev (32 - b).toNat a b b ha (by omega) (by omega) (by omega)
      rw [decide_eq_true (by omega : 0 ≤ b), decide_eq_true (by omega : b ≤ 32)]
      exact this
end Go.Proofs.Ytjmpojfpbhihpaa.P

end
section
set_option linter.unusedVariables false
set_option linter.unusedSimpArgs false
namespace Go.Proofs.Ytjmpojfpbhihpaa.P
open Go.RowKit Go.Proofs.YtjmpojfpbhihpaaW.PrintWords Go.Proofs.YtjmpojfpbhihpaaW.PrintLast Go.Proofs.YtjmpojfpbhihpaaW.PrintMore

/-- an address out of its first bytes -/
def pa (D : List Int) : Nat → Int
  | 0 => 0
  | i + 1 => pa D i + D.getD i 0 * 2 ^ (24 - 8 * i)
/-- how many bytes so many bits take -/
def nb (b : Int) : Nat := ((b + 7) / 8).toNat
theorem nb_le (b : Int) (h0 : 0 ≤ b) (h1 : b ≤ 32) : nb b ≤ 4 := by unfold nb; omega
def fin4 (at_ a b : Int) : Int × Int × Int × Int := if mayB a b = true then (a, b, at_ + 1 + (nb b : Int), 0) else (0, 0, 0, 4)
/-- the prefix that stands at a place -/
def takeL (B : List Int) (at_ : Nat) : Int × Int × Int × Int :=
  if B.length ≤ at_ then (0, 0, 0, 3) else if B.getD at_ 0 > 32 then (0, 0, 0, 4) else
  if B.length < at_ + 1 + nb (B.getD at_ 0) then (0, 0, 0, 3) else fin4 at_ (pa (B.drop (at_ + 1)) (nb (B.getD at_ 0))) (B.getD at_ 0)
theorem pa_four (D : List Int) (hD : U8 D) : (pa D 0 = 0) ∧ (pa D 1 = D.getD 0 0 * 16777216) ∧ (pa D 2 = D.getD 0 0 * 16777216 + D.getD 1 0 * 65536) ∧ (pa D 3 = D.getD 0 0 * 16777216 + D.getD 1 0 * 65536 + D.getD 2 0 * 256) ∧ (pa D 4 = D.getD 0 0 * 16777216 + D.getD 1 0 * 65536 + D.getD 2 0 * 256 + D.getD 3 0) := by
  simp [pa]
theorem pa_isA (D : List Int) (hD : U8 D) (n : Nat) (h : n ≤ 4) : isA (pa D n) := by
  obtain ⟨p0, p1, p2, p3, p4⟩ := pa_four D hD
  have u0 := hD.at 0
  have u1 := hD.at 1
  have u2 := hD.at 2
  have u3 := hD.at 3
  unfold isA
  match n, h with
  | 0, _ => rw [p0]; omega
  | 1, _ => rw [p1]; omega
  | 2, _ => rw [p2]; omega
  | 3, _ => rw [p3]; omega
  | 4, _ => rw [p4]; omega
theorem or_step (D : List Int) (hD : U8 D) (i : Nat) (h : i < 4) : Go.bits .or .u32 (pa D i) (shl .u32 ((D.getD i 0) % 4294967296) (wrap64 (24 - (wrap64 (8 * (i : Int)))))) = pa D (i + 1) := by
  obtain ⟨p0, p1, p2, p3, p4⟩ := pa_four D hD
  have u0 := hD.at 0
  have u1 := hD.at 1
  have u2 := hD.at 2
  have u3 := hD.at 3
  rw [wrap64_in (8 * (i : Int)) (by omega) (by omega), wrap64_in (24 - 8 * (i : Int)) (by omega) (by omega)]
  match i, h with
  | 0, _ =>
    have e : shl .u32 ((D.getD 0 0) % 4294967296) (24 - 8 * ((0 : Nat) : Int)) = D.getD 0 0 * 16777216 := by
      show IntKind.u32.wrap ((D.getD 0 0) % 4294967296 * 2 ^ 24) = _
      rw [IntKind.wrap_u32]; omega
    rw [e, p0, p1]
    rw [or_join 0 (D.getD 0 0 * 16777216) 32 (by omega) (by omega) (by decide) (by omega) (by omega) (by omega)]; omega
  | 1, _ =>
    have e : shl .u32 ((D.getD 1 0) % 4294967296) (24 - 8 * ((1 : Nat) : Int)) = D.getD 1 0 * 65536 := by
      show IntKind.u32.wrap ((D.getD 1 0) % 4294967296 * 2 ^ 16) = _
      rw [IntKind.wrap_u32]; omega
    rw [e, p1, p2]
    exact or_join _ _ 24 (by omega) (by omega) (by omega) (by omega) (by omega) (by omega)
  | 2, _ =>
    have e : shl .u32 ((D.getD 2 0) % 4294967296) (24 - 8 * ((2 : Nat) : Int)) = D.getD 2 0 * 256 := by
      show IntKind.u32.wrap ((D.getD 2 0) % 4294967296 * 2 ^ 8) = _
      rw [IntKind.wrap_u32]; omega
    rw [e, p2, p3]
    exact or_join _ _ 16 (by omega) (by omega) (by omega) (by omega) (by omega) (by omega)
  | 3, _ =>
    have e : shl .u32 ((D.getD 3 0) % 4294967296) (24 - 8 * ((3 : Nat) : Int)) = D.getD 3 0 := by
      show IntKind.u32.wrap ((D.getD 3 0) % 4294967296 * 2 ^ 0) = _
      rw [IntKind.wrap_u32]; omega
    rw [e, p3, p4]
    exact or_join _ _ 8 (by omega) (by omega) (by omega) (by omega) (by omega) (by omega)
theorem wtLoop_ev (B : List Int) (hB : B.length ≤ 100000) (hu : U8 B) (at_ n : Nat) (hn : n ≤ 4) (hl : at_ + 1 + n ≤ B.length) (b : Int) (hb : nb b = n) : ∀ (d i : Nat), n - i = d → i ≤ n →
    Evt (fun k => wire_Take.l0 k B (at_ : Int) (n : Int) (n : Int) (i : Int) (pa (B.drop (at_ + 1)) i) b) (fin4 at_ (pa (B.drop (at_ + 1)) n) b) := by
  have hD := hu.drop (at_ + 1)
  intro d
  induction d with
  | zero =>
    intro i hd hi
    obtain rfl : i = n := by omega
    refine Evt.step ?_
    simp only [wire_Take.l0]
    have hA := pa_isA _ hD i hn
    refine Evt.ite_neg (by omega) (Evt.bindc (may_is _ b hA) ?_)
    by_cases hm : mayB (pa (B.drop (at_ + 1)) i) b = true
    · have hf : fin4 (at_ : Int) (pa (B.drop (at_ + 1)) i) b = (pa (B.drop (at_ + 1)) i, b, (at_ : Int) + 1 + (nb b : Int), 0) := if_pos hm
      rw [hf]
      refine Evt.ite_pos hm ?_
      rw [wrap64_in ((at_ : Int) + 1) (by omega) (by omega), wrap64_in ((at_ : Int) + 1 + (i : Int)) (by omega) (by omega), hb]
      exact Evt.pure _
    · have hf : fin4 (at_ : Int) (pa (B.drop (at_ + 1)) i) b = (0, 0, 0, 4) := if_neg hm
      rw [hf]; exact Evt.ite_neg hm (Evt.pure _)
  | succ d ih =>
    intro i hd hi
    have hi1 := ih (i + 1) (by omega) (by omega)
    refine Evt.step ?_
    simp only [wire_Take.l0]
    have hr : rd B ((at_ : Int) + 1 + (i : Int)) = (B.drop (at_ + 1)).getD i 0 := by
      rw [show (at_ : Int) + 1 + (i : Int) = ((at_ + 1 : Nat) : Int) + (i : Int) by omega]; exact rd_drop B (at_ + 1) i
    rw [wrap64_in ((at_ : Int) + 1) (by omega) (by omega), wrap64_in ((at_ : Int) + 1 + (i : Int)) (by omega) (by omega), wrap64_in ((i : Int) + 1) (by omega) (by omega), hr, or_step _ hD i (by omega)]
    refine Evt.ite_pos (by omega) (Evt.ite_pos (by omega) (Evt.ite_pos (by omega) (Evt.ite_pos ?_ ?_)))
    · rw [wrap64_in (8 * (i : Int)) (by omega) (by omega), wrap64_in (24 - 8 * (i : Int)) (by omega) (by omega)]; omega
    · rw [show (i : Int) + 1 = ((i + 1 : Nat) : Int) by omega]; exact hi1
theorem rd_nat (B : List Int) (i : Nat) : rd B (i : Int) = B.getD i 0 := by unfold rd; rw [Int.toNat_natCast]
theorem nb_is (b : Int) (h0 : 0 ≤ b) (h1 : b ≤ 32) : wrap64 (Int.tdiv (wrap64 (b + 7)) 8) = (nb b : Int) := by
  rw [wrap64_in (b + 7) (by omega) (by omega), Int.tdiv_eq_ediv_of_nonneg (by omega), wrap64_in _ (by omega) (by omega)]
  unfold nb; omega
theorem wtTake_ev (B : List Int) (hB : B.length ≤ 100000) (hu : U8 B) (at_ : Nat) (hat : at_ ≤ 9223372036854775807) : Evt (fun k => wire_Take.f k B (at_ : Int)) (takeL B at_) := by
  have u := hu.at at_
  unfold wire_Take.f takeL
  refine Evt.ite_neg (by omega) (Evt.step ?_)
  simp only [wire_Take.j0]
  by_cases h : B.length ≤ at_
  · rw [if_pos h]
    exact Evt.ite_pos (decide_eq_true (by omega)) (Evt.pure _)
  · rw [if_neg h, rd_nat, wrap64_in (B.getD at_ 0) (by omega) (by omega)]
    refine Evt.ite_neg (by rw [decide_eq_false (by omega)]; simp) (Evt.ite_pos (by omega) (Evt.ite_pos (by omega) ?_))
    by_cases h2 : B.getD at_ 0 > 32
    · rw [if_pos h2]; exact Evt.ite_pos h2 (Evt.pure _)
    · rw [if_neg h2]
      refine Evt.ite_neg h2 ?_
      have hn := nb_le _ u.1 (by omega)
      rw [nb_is _ u.1 (by omega), wrap64_in ((B.length : Int) - (at_ : Int)) (by omega) (by omega), wrap64_in ((B.length : Int) - (at_ : Int) - 1) (by omega) (by omega)]
      by_cases h3 : B.length < at_ + 1 + nb (B.getD at_ 0)
      · rw [if_pos h3]; exact Evt.ite_pos (by omega) (Evt.pure _)
      · rw [if_neg h3]
        refine Evt.ite_neg (by omega) ?_
        exact wtLoop_ev B hB hu at_ _ hn (by omega) _ rfl _ 0 rfl (by omega)
theorem wtNeg_ev (B : List Int) (a : Int) (h : a < 0 ∨ (B.length : Int) ≤ a) : Evt (fun k => wire_Take.f k B a) (0, 0, 0, 3) := by
  unfold wire_Take.f
  by_cases h1 : a < 0
  · refine Evt.ite_pos h1 (Evt.step ?_)
    simp only [wire_Take.j0]
    exact Evt.ite_pos trivial (Evt.pure _)
  · refine Evt.ite_neg h1 (Evt.step ?_)
    simp only [wire_Take.j0]
    exact Evt.ite_pos (decide_eq_true (by omega)) (Evt.pure _)
theorem rtNeg_ev (B : List Int) (a : Int) (h : a < 0 ∨ (B.length : Int) ≤ a) : Evt (fun k => whirligigref10_Take.f k B a) (0, 0, 0, 3) := by
  unfold whirligigref10_Take.f
  by_cases h1 : a < 0
  · refine Evt.ite_pos h1 (Evt.step ?_)
    simp only [whirligigref10_Take.j0]
    exact Evt.ite_pos trivial (Evt.pure _)
  · refine Evt.ite_neg h1 (Evt.step ?_)
    simp only [whirligigref10_Take.j0]
    exact Evt.ite_pos (decide_eq_true (by omega)) (Evt.pure _)
/-- the document's address: d bytes are left -/
def rf (D : List Int) (n : Nat) : Nat → Int → Int
  | 0, a => a
  | d + 1, a => rf D n d (if 3 - d < n then (a * 256 % 4294967296 + D.getD (3 - d) 0 % 4294967296) % 4294967296 else a * 256 % 4294967296)
theorem rf_is (D : List Int) (hD : U8 D) (n : Nat) (h : n ≤ 4) : rf D n 4 0 = pa D n := by
  obtain ⟨p0, p1, p2, p3, p4⟩ := pa_four D hD
  have u0 := hD.at 0
  have u1 := hD.at 1
  have u2 := hD.at 2
  have u3 := hD.at 3
  have step : ∀ (a y : Int), 0 ≤ a → a ≤ 16777215 → 0 ≤ y → y ≤ 255 → (a * 256 % 4294967296 + y % 4294967296) % 4294967296 = a * 256 + y := fun a y h0 h1 h2 h3 => by omega
  have stepz : ∀ (a : Int), 0 ≤ a → a ≤ 16777215 → a * 256 % 4294967296 = a * 256 := fun a h0 h1 => by omega
  have e : ∀ n, rf D n 4 0 = rf D n 3 (if 0 < n then (0 * 256 % 4294967296 + D.getD 0 0 % 4294967296) % 4294967296 else 0 * 256 % 4294967296) := fun n => rfl
  have e3 : ∀ n a, rf D n 3 a = rf D n 2 (if 1 < n then (a * 256 % 4294967296 + D.getD 1 0 % 4294967296) % 4294967296 else a * 256 % 4294967296) := fun n a => rfl
  have e2 : ∀ n a, rf D n 2 a = rf D n 1 (if 2 < n then (a * 256 % 4294967296 + D.getD 2 0 % 4294967296) % 4294967296 else a * 256 % 4294967296) := fun n a => rfl
  have e1 : ∀ n a, rf D n 1 a = (if 3 < n then (a * 256 % 4294967296 + D.getD 3 0 % 4294967296) % 4294967296 else a * 256 % 4294967296) := fun n a => rfl
  have u0' := hD.at 0
  match n, h with
  | 0, _ => rw [p0, e, if_neg (by omega), e3, if_neg (by omega), e2, if_neg (by omega), e1, if_neg (by omega)]; omega
  | 1, _ =>
    rw [p1, e, if_pos (by omega), step 0 _ (by omega) (by omega) u0'.1 u0'.2, e3, if_neg (by omega), stepz _ (by omega) (by omega), e2, if_neg (by omega), stepz _ (by omega) (by omega), e1, if_neg (by omega), stepz _ (by omega) (by omega)]; omega
  | 2, _ =>
    rw [p2, e, if_pos (by omega), step 0 _ (by omega) (by omega) u0'.1 u0'.2, e3, if_pos (by omega), step _ _ (by omega) (by omega) u1.1 u1.2, e2, if_neg (by omega), stepz _ (by omega) (by omega), e1, if_neg (by omega), stepz _ (by omega) (by omega)]; omega
  | 3, _ =>
    rw [p3, e, if_pos (by omega), step 0 _ (by omega) (by omega) u0'.1 u0'.2, e3, if_pos (by omega), step _ _ (by omega) (by omega) u1.1 u1.2, e2, if_pos (by omega), step _ _ (by omega) (by omega) u2.1 u2.2, e1, if_neg (by omega), stepz _ (by omega) (by omega)]; omega
  | 4, _ =>
    rw [p4, e, if_pos (by omega), step 0 _ (by omega) (by omega) u0'.1 u0'.2, e3, if_pos (by omega), step _ _ (by omega) (by omega) u1.1 u1.2, e2, if_pos (by omega), step _ _ (by omega) (by omega) u2.1 u2.2, e1, if_pos (by omega), step _ _ (by omega) (by omega) u3.1 u3.2]; omega
theorem rtLoop_ev (B : List Int) (hB : B.length ≤ 100000) (at_ n : Nat) (hn : n ≤ 4) (hl : at_ < B.length) (b : Int) (hb : nb b = n) : ∀ (d i : Nat) (a : Int), 4 - i = d → i ≤ 4 → isA a → (i ≤ n → at_ + 1 + i ≤ B.length) → (n ≤ i → at_ + 1 + n ≤ B.length) →
    Evt (fun k => whirligigref10_Take.l0 k B (at_ : Int) (n : Int) (i : Int) a b) (if B.length < at_ + 1 + n then (0, 0, 0, 3) else fin4 at_ (rf (B.drop (at_ + 1)) n d a) b) := by
  intro d
  induction d with
  | zero =>
    intro i a hd hi ha h1 h2
    obtain rfl : i = 4 := by omega
    have h3 := h2 hn
    rw [if_neg (by omega)]
    refine Evt.step ?_
    simp only [whirligigref10_Take.l0]
    refine Evt.ite_neg (by omega) (Evt.bind (refMay_ev a b ha) ?_)
    unfold rf
    by_cases hm : mayB a b = true
    · have hf : fin4 (at_ : Int) a b = (a, b, (at_ : Int) + 1 + (nb b : Int), 0) := if_pos hm
      rw [hf]
      refine Evt.ite_pos hm ?_
      rw [wrap64_in ((at_ : Int) + 1) (by omega) (by omega), wrap64_in ((at_ : Int) + 1 + (n : Int)) (by omega) (by omega), hb]
      exact Evt.pure _
    · have hf : fin4 (at_ : Int) a b = (0, 0, 0, 4) := if_neg hm
      rw [hf]; exact Evt.ite_neg hm (Evt.pure _)
  | succ d ih =>
    intro i a hd hi ha h1 h2
    obtain rfl : i = 3 - d := by omega
    refine Evt.step ?_
    simp only [whirligigref10_Take.l0]
    rw [wrap64_in ((at_ : Int) + 1) (by omega) (by omega), wrap64_in ((at_ : Int) + 1 + ((3 - d : Nat) : Int)) (by omega) (by omega), wrap64_in (((3 - d : Nat) : Int) + 1) (by omega) (by omega)]
    refine Evt.ite_pos (by omega) ?_
    by_cases hin : 3 - d < n
    · refine Evt.ite_pos (by omega) ?_
      by_cases hend : at_ + 1 + (3 - d) ≥ B.length
      · rw [if_pos (by omega)]
        exact Evt.ite_pos (by omega) (Evt.pure _)
      · refine Evt.ite_neg (by omega) (Evt.ite_pos (by omega) (Evt.ite_pos (by omega) ?_))
        have hr : rd B ((at_ : Int) + 1 + ((3 - d : Nat) : Int)) = (B.drop (at_ + 1)).getD (3 - d) 0 := by
          rw [show (at_ : Int) + 1 + ((3 - d : Nat) : Int) = ((at_ + 1 : Nat) : Int) + ((3 - d : Nat) : Int) by omega]; exact rd_drop B (at_ + 1) (3 - d)
        rw [hr]
        have := ih (3 - d + 1) ((a * 256 % 4294967296 + (B.drop (at_ + 1)).getD (3 - d) 0 % 4294967296) % 4294967296) (by omega) (by omega) (by unfold isA; omega) (by intro _; omega) (by intro _; omega)
        rw [rf, if_pos hin, show ((3 - d : Nat) : Int) + 1 = ((3 - d + 1 : Nat) : Int) by omega]
        exact this
    · refine Evt.ite_neg (by omega) ?_
      have := ih (3 - d + 1) (a * 256 % 4294967296) (by omega) (by omega) (by unfold isA; omega) (by intro _; omega) (by intro _; exact h2 (by omega))
      rw [rf, if_neg hin, show ((3 - d : Nat) : Int) + 1 = ((3 - d + 1 : Nat) : Int) by omega]
      exact this
theorem rtTake_ev (B : List Int) (hB : B.length ≤ 100000) (hu : U8 B) (at_ : Nat) : Evt (fun k => whirligigref10_Take.f k B (at_ : Int)) (takeL B at_) := by
  have u := hu.at at_
  unfold whirligigref10_Take.f takeL
  refine Evt.ite_neg (by omega) (Evt.step ?_)
  simp only [whirligigref10_Take.j0]
  by_cases h : B.length ≤ at_
  · rw [if_pos h]
    exact Evt.ite_pos (decide_eq_true (by omega)) (Evt.pure _)
  · rw [if_neg h, rd_nat, wrap64_in (B.getD at_ 0) (by omega) (by omega)]
    refine Evt.ite_neg (by rw [decide_eq_false (by omega)]; simp) (Evt.ite_pos (by omega) (Evt.ite_pos (by omega) ?_))
    by_cases h2 : B.getD at_ 0 > 32
    · rw [if_pos h2]; exact Evt.ite_pos h2 (Evt.pure _)
    · rw [if_neg h2]
      refine Evt.ite_neg h2 ?_
      have hn := nb_le _ u.1 (by omega)
      rw [nb_is _ u.1 (by omega)]
      have := rtLoop_ev B hB at_ (nb (B.getD at_ 0)) hn (by omega) _ rfl 4 0 0 rfl (by omega) (by unfold isA; omega) (by intro _; omega) (by intro h; omega)
      rw [rf_is _ (hu.drop _) _ hn] at this
      exact this
/-- a number's four bytes -/
def be4 (a : Int) : List Int := [a / 16777216 % 256, a / 65536 % 256, a / 256 % 256, a % 256]
theorem number4_ev (a : Int) (ha : isA a) : Evt (fun k => wire_number.f k ([] : List Int) a 4) (be4 a) := by
  obtain ⟨h0, h1⟩ := ha
  unfold wire_number.f
  rw [show wrap64 (4 - 1) = 3 from by unfold wrap64; omega]
  have s3 : shr .i64 a (wrap64 (8 * 3)) = a / 16777216 := by rw [show wrap64 (8 * 3) = 24 from by unfold wrap64; omega]; rfl
  have s2 : shr .i64 a (wrap64 (8 * 2)) = a / 65536 := by rw [show wrap64 (8 * 2) = 16 from by unfold wrap64; omega]; rfl
  have s1 : shr .i64 a (wrap64 (8 * 1)) = a / 256 := by rw [show wrap64 (8 * 1) = 8 from by unfold wrap64; omega]; rfl
  have s0 : shr .i64 a (wrap64 (8 * 0)) = a := by rw [show wrap64 (8 * 0) = 0 from by unfold wrap64; omega]; show a / 1 = a; omega
  refine Evt.step ?_
  simp only [wire_number.l0]
  refine Evt.ite_pos (by omega) (Evt.ite_pos (by unfold wrap64; omega) (Evt.ite_pos (by simp) ?_))
  rw [s3, show wrap64 (3 - 1) = 2 from by unfold wrap64; omega]
  refine Evt.step ?_
  simp only [wire_number.l0]
  refine Evt.ite_pos (by omega) (Evt.ite_pos (by unfold wrap64; omega) (Evt.ite_pos (by simp) ?_))
  rw [s2, show wrap64 (2 - 1) = 1 from by unfold wrap64; omega]
  refine Evt.step ?_
  simp only [wire_number.l0]
  refine Evt.ite_pos (by omega) (Evt.ite_pos (by unfold wrap64; omega) (Evt.ite_pos (by simp) ?_))
  rw [s1, show wrap64 (1 - 1) = 0 from by unfold wrap64; omega]
  refine Evt.step ?_
  simp only [wire_number.l0]
  refine Evt.ite_pos (by omega) (Evt.ite_pos (by unfold wrap64; omega) (Evt.ite_pos (by simp) ?_))
  rw [s0, show wrap64 (0 - 1) = -1 from by unfold wrap64; omega]
  refine Evt.step ?_
  simp only [wire_number.l0]
  exact Evt.ite_neg (by omega) (Evt.of fun k => by simp [be4])
/-- a prefix's bytes -/
def pfx (a b : Int) : List Int := b :: (be4 a).take (nb b)
theorem wPrefix_ev (B : List Int) (hB : B.length ≤ 100000) (a b : Int) (ha : isA a) : Evt (fun k => wire_Prefix.f k B a b) (if mayB a b = true then B ++ pfx a b else B) := by
  unfold wire_Prefix.f
  refine Evt.bindc (a := B) (by unfold bytes_Clone.f; rw [if_pos (by omega)]) (Evt.bindc (may_is a b ha) ?_)
  by_cases hm : mayB a b = true
  · obtain ⟨b0, b1, _⟩ := (mayB_iff a b).1 hm
    rw [if_pos hm]
    refine Evt.ite_pos hm (Evt.ite_pos (by omega) (Evt.bindc rfl ?_))
    rw [wrap64_in a (by have := ha.1; omega) (by have := ha.2; omega), nb_is b b0 b1, Int.emod_eq_of_lt b0 (by omega)]
    have hn := nb_le b b0 b1
    refine Evt.bind (number4_ev a ha) (Evt.ite_pos (by omega) (Evt.ite_pos (by simp [be4]; omega) (Evt.bindc rfl (Evt.ite_pos ?_ (Evt.of fun k => ?_)))))
    · rw [List.length_append, List.length_take]; simp [be4]; omega
    · rw [Int.toNat_natCast]; unfold pfx; simp
  · rw [if_neg hm]
    exact Evt.ite_neg hm (Evt.pure _)
theorem rNumber4_ev (a : Int) (ha : isA a) : Evt (fun k => whirligigref10_Number.f k a 4) (strOfNums (be4 a)) := by
  obtain ⟨h0, h1⟩ := ha
  unfold whirligigref10_Number.f
  have st : ∀ (x : Int) (l : List Int) (i : Nat) (r : ByteArray), 0 ≤ x → x ≤ 4294967295 → i < 4 → l.length ≤ 4 → Evt (fun k => whirligigref10_Number.l0 k (x / 256) 4 (strOfNums (x % 256 :: l)) ((i + 1 : Nat) : Int)) r → Evt (fun k => whirligigref10_Number.l0 k x 4 (strOfNums l) (i : Int)) r := by
    intro x l i r h0 h1 hi hl h
    refine Evt.step ?_
    simp only [whirligigref10_Number.l0]
    refine Evt.ite_pos (by omega) (Evt.bindc rfl ?_)
    rw [Int.tmod_eq_emod_of_nonneg h0, Int.tdiv_eq_ediv_of_nonneg h0, wrap64_in (x / 256) (by omega) (by omega), wrap64_in ((i : Int) + 1) (by omega) (by omega), show x % 256 % 256 = x % 256 by omega, son_app, show [x % 256] ++ l = x % 256 :: l from rfl]
    refine Evt.ite_pos (by rw [strOfNums_size, strOfNums_size]; simp; omega) ?_
    rw [show (i : Int) + 1 = ((i + 1 : Nat) : Int) by omega]; exact h
  rw [show (⟨#[]⟩ : ByteArray) = strOfNums [] from rfl]
  refine st a [] 0 _ h0 h1 (by omega) (by simp) ?_
  refine st (a / 256) _ 1 _ (by omega) (by omega) (by omega) (by simp) ?_
  refine st (a / 256 / 256) _ 2 _ (by omega) (by omega) (by omega) (by simp) ?_
  refine st (a / 256 / 256 / 256) _ 3 _ (by omega) (by omega) (by omega) (by simp) ?_
  refine Evt.step ?_
  simp only [whirligigref10_Number.l0]
  refine Evt.ite_neg (by omega) (Evt.of fun k => ?_)
  unfold be4
  rw [show a / 256 / 256 / 256 % 256 = a / 16777216 % 256 by omega, show a / 256 / 256 % 256 = a / 65536 % 256 by omega]
theorem rPrefix_ev (a b : Int) (ha : isA a) (b0 : 0 ≤ b) (b1 : b ≤ 32) : Evt (fun k => whirligigref10_Prefix.f k a b) (strOfNums (pfx a b)) := by
  have hn := nb_le b b0 b1
  unfold whirligigref10_Prefix.f
  refine Evt.bindc rfl ?_
  rw [wrap64_in a (by have := ha.1; omega) (by have := ha.2; omega), nb_is b b0 b1, Int.emod_eq_of_lt b0 (by omega)]
  have he : (strOfNums (be4 a)).extract 0 (nb b) = strOfNums ((be4 a).take (nb b)) := by
    rw [ext_take]
    unfold strOfNums
    simp
  refine Evt.bind (rNumber4_ev a ha) (Evt.ite_pos (by omega) (Evt.ite_pos (by rw [strOfNums_size]; simp [be4]; omega) ?_))
  rw [Int.toNat_natCast, he, son_app]
  refine Evt.ite_pos (by rw [strOfNums_size, strOfNums_size, List.length_take]; simp [be4]; omega) (Evt.pure _)
theorem un_div (b : Int) (h0 : 0 ≤ b) (h1 : b ≤ 32) (a : Int) (h : a % un b = 0) : a % 2 ^ (32 - 8 * nb b) = 0 := by
  have hn := nb_le b h0 h1
  have he : (32 - b).toNat = (32 - 8 * nb b) + ((32 - b).toNat - (32 - 8 * nb b)) := by unfold nb; omega
  have h2 : un b = 2 ^ (32 - 8 * nb b) * 2 ^ ((32 - b).toNat - (32 - 8 * nb b)) := by
    unfold un
    rw [← Int.pow_add, ← he]
  exact Int.emod_eq_zero_of_dvd (Int.dvd_trans ⟨_, h2⟩ (Int.dvd_of_emod_eq_zero h))
theorem pa_back (a b : Int) (ha : isA a) (h : mayB a b = true) : pa ((be4 a).take (nb b)) (nb b) = a := by
  obtain ⟨b0, b1, b2⟩ := (mayB_iff a b).1 h
  have hn := nb_le b b0 b1
  have hd := un_div b b0 b1 a b2
  obtain ⟨h0, h1⟩ := ha
  match hq : nb b, hn with
  | 0, _ => rw [hq] at hd; simp [pa]; simp at hd; omega
  | 1, _ => rw [hq] at hd; simp [pa, be4]; simp at hd; omega
  | 2, _ => rw [hq] at hd; simp [pa, be4]; simp at hd; omega
  | 3, _ => rw [hq] at hd; simp [pa, be4]; simp at hd; omega
  | 4, _ => simp [pa, be4]; omega
theorem take_back (B : List Int) (a b : Int) (ha : isA a) (h : mayB a b = true) : takeL (B ++ pfx a b) B.length = (a, b, ((B ++ pfx a b).length : Int), 0) := by
  obtain ⟨b0, b1, b2⟩ := (mayB_iff a b).1 h
  have hn := nb_le b b0 b1
  have hg : (B ++ pfx a b).getD B.length 0 = b := by
    rw [List.getD_eq_getElem?_getD, List.getElem?_append_right (Nat.le_refl _)]; simp [pfx]
  have hlen : (B ++ pfx a b).length = B.length + 1 + nb b := by
    unfold pfx; rw [List.length_append, List.length_cons, List.length_take]; simp [be4]; omega
  have hdr : (B ++ pfx a b).drop (B.length + 1) = (be4 a).take (nb b) := by
    rw [List.drop_append, List.drop_eq_nil_of_le (by omega), List.nil_append, show B.length + 1 - B.length = 1 by omega]; rfl
  unfold takeL
  rw [if_neg (by omega), hg, if_neg (by omega), if_neg (by omega), hdr, pa_back a b ha h]
  unfold fin4
  rw [if_pos h, hlen]
  simp
end Go.Proofs.Ytjmpojfpbhihpaa.P

end
section
namespace Go.Proofs.Ytjmpojfpbhihpaa.Pure
open Go.RowKit Go.Proofs.Ytjmpojfpbhihpaa.P Go.Proofs.YtjmpojfpbhihpaaW.PrintWords Go.Proofs.YtjmpojfpbhihpaaW.PrintLast Go.Proofs.YtjmpojfpbhihpaaW.PrintMore
set_option linter.unusedVariables false
set_option linter.unusedSimpArgs false

theorem okI_b {n : Int} (h : okI .u8 n) : 0 ≤ n ∧ n ≤ 255 := by
  unfold okI Lit.wf at h; simp [IntKind.min, IntKind.max, IntKind.bits, IntKind.signed] at h; omega
theorem WirePrefixes (x0 : List (Int)) (x1 : Int) (x2 : S25) (ok_0 : (okL 1 (okI .u8)) x0) (ok_1 : (okI .i64) x1) (ok_2 : (ok25) x2) : ∃ k, Go.Proofs.Ytjmpojfpbhihpaa.P.whirligiglaw10_WirePrefixes.f k x0 x1 x2.f0 x2.f1 = some true := by
  obtain ⟨a, b⟩ := x2
  have ha : isA a := okI_u32 ok_2.1
  have hx1 := okI_i64 ok_1
  have hu : U8 x0 := fun x hx => okI_b (ok_0.2 x hx)
  obtain ⟨B, hBx⟩ : ∃ B, B = x0 := ⟨_, rfl⟩
  rw [← hBx] at hu ⊢
  show ∃ k, Go.Proofs.Ytjmpojfpbhihpaa.P.whirligiglaw10_WirePrefixes.f k B x1 a b = some true
  refine Evt.ex ?_
  have hL : Evt (fun k => (whirligiglaw10_lives.f k).bind fun t => some t) true := Evt.bind lives_ev (Evt.pure _)
  unfold whirligiglaw10_WirePrefixes.f
  by_cases h : (B.length : Int) > 5000
  · exact Evt.ite_pos h hL
  · refine Evt.ite_neg h ?_
    have J : Evt (fun k => whirligiglaw10_WirePrefixes.j0 k B false a b) true := by
      refine Evt.step ?_
      simp only [whirligiglaw10_WirePrefixes.j0]
      refine Evt.ite_neg (by simp) (Evt.bind (wPrefix_ev B (by omega) a b ha) ?_)
      by_cases hm : mayB a b = true
      · rw [if_pos hm]
        obtain ⟨b0, b1, _⟩ := (mayB_iff a b).1 hm
        have hn := nb_le b b0 b1
        have hlen : (B ++ pfx a b).length ≤ B.length + 5 := by
          unfold pfx; rw [List.length_append, List.length_cons, List.length_take]; omega
        have hU : U8 (B ++ pfx a b) := by
          intro x hx
          rcases List.mem_append.1 hx with hx | hx
          · exact hu x hx
          · unfold pfx at hx
            rcases List.mem_cons.1 hx with rfl | hx
            · omega
            · have := List.mem_of_mem_take hx
              unfold be4 at this
              simp at this
              omega
        have ht := wtTake_ev (B ++ pfx a b) (by omega) hU B.length (by omega)
        rw [take_back B a b ha hm] at ht
        refine Evt.bind ht (Evt.ite_pos rfl (Evt.ite_pos (by simp) (Evt.ite_pos rfl (Evt.bind (rPrefix_ev a b ha b0 b1) ?_))))
        rw [son_app]
        refine Evt.ite_pos ?_ (Evt.ite_pos rfl hL)
        rw [strOfNums_size, strOfNums_size]
        rw [List.length_append] at hlen
        omega
      · rw [if_neg hm]
        refine Evt.bind (wtNeg_ev B (B.length : Int) (.inr (by omega))) (Evt.ite_neg (by decide) (Evt.ite_pos rfl (Evt.ite_pos rfl hL)))
    have K : ∀ r : Int × Int × Int × Int, Evt (fun k => wire_Take.f k B x1) r → Evt (fun k => whirligigref10_Take.f k B x1) r → Evt (fun k => (wire_Take.f k B x1).bind fun bt156 => ((whirligigref10_Take.f k B x1).bind fun bt161 => (if (!(bt156.1 == bt161.1) || (!(bt156.2.1 == bt161.2.1))) = true then (whirligiglaw10_WirePrefixes.j0 k B true a b) else (if bt156.2.2.1 = bt161.2.2.1 then (whirligiglaw10_WirePrefixes.j0 k B (bt156.2.2.2 != bt161.2.2.2) a b) else (whirligiglaw10_WirePrefixes.j0 k B true a b))))) true := by
      intro r h1 h2
      refine Evt.bind h1 (Evt.bind h2 (Evt.ite_neg (by simp) (Evt.ite_pos rfl ?_)))
      rw [show (r.2.2.2 != r.2.2.2) = false by simp]
      exact J
    by_cases hneg : x1 < 0 ∨ (B.length : Int) ≤ x1
    · exact K _ (wtNeg_ev B x1 hneg) (rtNeg_ev B x1 hneg)
    · obtain ⟨n, rfl⟩ := Int.eq_ofNat_of_zero_le (show 0 ≤ x1 by omega)
      exact K _ (wtTake_ev B (by omega) hu n (by omega)) (rtTake_ev B (by omega) hu n)
end Go.Proofs.Ytjmpojfpbhihpaa.Pure

end
