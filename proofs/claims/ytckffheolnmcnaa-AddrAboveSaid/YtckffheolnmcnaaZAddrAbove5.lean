/- Part of the proof of RowAddrAbove: what it asks of functions, words and plain facts (put together by this session's own program, wip/tools/shake.py). -/
import Derived.Test.YtckffheolnmcnaaZAddrAbove0
import Derived.Test.YtckffheolnmcnaaZAddrAbove1
import Derived.Test.YtckffheolnmcnaaZAddrAbove2
import Derived.Test.YtckffheolnmcnaaZAddrAbove3
import Derived.Test.YtckffheolnmcnaaZAddrAbove4
import Derived.Deep.Slices
import Derived.ChangeArms
import Derived.OpenShut
import Derived.SizedLaws
import Derived.KernelRfl
section
set_option linter.unusedVariables false
set_option linter.unusedSimpArgs false
namespace Go.Proofs.Ytckffheolnmcnaa
open Go.ChangeShapes Go.WideShapes Go.Proofs.YtckffheolnmcnaaW.PrintWords Go.Proofs.YtckffheolnmcnaaW.PrintLast Go.Proofs.YtckffheolnmcnaaW.PrintMore

/-- the ints of a kind -/
def okI (k : IntKind) (n : Int) : Prop := (Lit.int k n).wf = true
theorem okI_u32 {n : Int} (h : okI .u32 n) : 0 ≤ n ∧ n ≤ 4294967295 := by
  unfold okI Lit.wf at h; simp [IntKind.min, IntKind.max, IntKind.bits, IntKind.signed] at h; omega
/-- A reading of a type. -/
structure RV (P : Program) (t : TypeId) (α : Type) (d : Kd α) where
  ok : α → Prop
  sz : P.cellsOf t = d.sz
  opens : ∀ {H : Type} {enc : TypeId × Value → H} {w : World} {base : Nat} {spare : Nat → Bool} {held : Bool} {fuel : Nat} {cs : List Value} {x : DataW H × List MemPlace},
    DataW.trod enc P w base spare held fuel t cs = some x → (x.1.weights P t).all (· ≤ reachBytes) = true → ∃ a, d.K w a cs ∧ ok a
/-- A reading of a stretch of fields. -/
structure RF (P : Program) (fs : List Field) (off : Nat) (α : Type) where
  K : World → α → List Value → Prop
  ok : α → Prop
  opens : ∀ {H : Type} {enc : TypeId × Value → H} {w : World} {base : Nat} {spare : Nat → Bool} {held : Bool} {fuel : Nat} {cs : List Value} {ds : List (DataW H × List MemPlace)}, off ≤ cs.length →
    (∀ f, f ∈ fs → f.offset + P.cellsOf f.type ≤ cs.length) → (∀ (i : Nat) (f : Field), fs[i]? = some f → ∃ y, ds[i]? = some y ∧ DataW.trod enc P w base spare held fuel f.type ((cs.drop f.offset).take (P.cellsOf f.type)) = some y) →
    (DataW.weightsEach P (fs.map (·.type)) (ds.map (·.1))).all (· ≤ reachBytes) = true →
    (fs = [] → cs.length = off) → (∀ f, fs.getLast? = some f → f.offset + P.cellsOf f.type = cs.length) → ∃ a, K w a (cs.drop off) ∧ ok a

section
variable {P : Program} {t e : TypeId} {α β : Type} {d : Kd α}
def rInt (k : IntKind) (ht : P.underlying t = some (.int k)) (hc : P.cellsOf t = 1) : RV P t Int (Kd.int k) where
  ok := okI k
  sz := hc
  opens := fun h _ => by obtain ⟨n, h1, _, h3⟩ := DataW.trod_int ht h; exact ⟨n, h1, h3⟩
def fNil (off : Nat) : RF P [] off Unit where
  K := fun _ _ cs => cs = []
  ok := fun _ => True
  opens := fun _ _ _ _ h0 _ => ⟨(), by have := h0 rfl; simp [← this], trivial⟩
def fCons (f : Field) {fs : List Field} {off n : Nat} (ho : f.offset = off) (hn : P.cellsOf f.type = n) {d : Kd α} (V : RV P f.type α d) (F : RF P fs (off + n) β) : RF P (f :: fs) off (α × β) where
  K := fun w x cs => ∃ c c', cs = c ++ c' ∧ d.K w x.1 c ∧ F.K w x.2 c'
  ok := fun x => V.ok x.1 ∧ F.ok x.2
  opens := fun {H enc w base spare held fuel cs ds} hoff hle hy hw h0 hlast => by
    obtain ⟨y, hy1, hy0⟩ := hy 0 f rfl
    obtain ⟨ds, rfl⟩ : ∃ l, ds = y :: l := by
      cases ds with
      | nil => simp at hy1
      | cons z l => simp at hy1; subst hy1; exact ⟨l, rfl⟩
    rw [List.map_cons, List.map_cons, DataW.weightsEach, List.all_append, Bool.and_eq_true] at hw
    obtain ⟨a, ha, hka⟩ := V.opens hy0 hw.1
    have hl0 := hle f (by simp)
    rw [ho, hn] at hl0
    obtain ⟨b, hb, hkb⟩ := F.opens (cs := cs) (ds := ds) hl0 (fun g hg => hle g (by simp [hg])) (fun i g hg => hy (i + 1) g hg) hw.2 (fun h => by subst h; have := hlast f (by simp); rw [ho, hn] at this; exact this.symm)
      (fun g hg => hlast g (by cases fs with | nil => simp at hg | cons z zs => rw [List.getLast?_cons_cons]; exact hg))
    refine ⟨(a, b), ⟨(cs.drop off).take n, cs.drop (off + n), ?_, ?_, hb⟩, hka, hkb⟩
    · rw [← List.drop_drop, List.take_append_drop]
    · rw [ho, hn] at ha; exact ha
/-- the struct's cells end with its last field's -/
def fitsB (P : Program) (t : TypeId) (fs : List Field) : Bool := fs.all (fun f => decide (f.offset + P.cellsOf f.type ≤ P.cellsOf t)) && (match fs.getLast? with | some f => f.offset + P.cellsOf f.type == P.cellsOf t | none => P.cellsOf t == 0)
def rStruct {fs : Array Field} (ht : P.underlying t = some (.struct fs)) (hf : fitsB P t fs.toList = true) {d : Kd β} (hc : P.cellsOf t = d.sz) (F : RF P fs.toList 0 α) (f : α → β) (hK : ∀ w x cs, F.K w x cs → d.K w (f x) cs) (ok : β → Prop) (hok : ∀ x, F.ok x → ok (f x)) : RV P t β d where
  ok := ok
  sz := hc
  opens := fun {H enc w base spare held fuel cs x} h hw => by
    obtain ⟨xs, n, _, rfl, hl, hxl, hx⟩ := DataW.trod_struct ht h
    unfold fitsB at hf
    rw [Bool.and_eq_true] at hf
    obtain ⟨f1, f2⟩ := hf
    simp only [DataW.weights, ht] at hw
    obtain ⟨a, ha, hka⟩ := F.opens (enc := enc) (w := w) (base := base) (spare := spare) (held := held) (fuel := n) (cs := cs) (ds := xs) (Nat.zero_le _)
      (fun f hf => by rw [hl]; exact of_decide_eq_true (List.all_eq_true.1 f1 f hf))
      (fun i f hi => by
        have hi' : fs[i]? = some f := by rw [← Array.getElem?_toList]; exact hi
        have hlt : i < fs.size := by
          have := (List.getElem?_eq_some_iff.1 hi).1
          simpa using this
        have z := hx i f hi'
        rw [z]
        exact ⟨_, List.getElem?_eq_getElem (by omega), List.getElem?_eq_getElem (by omega)⟩)
      hw
      (fun h0 => by rw [h0] at f2; simp at f2; rw [hl]; exact f2)
      (fun f hf => by rw [hf] at f2; simp at f2; rw [hl]; exact f2)
    exact ⟨f a, hK _ _ _ (by simpa using ha), hok a hka⟩
end
end Go.Proofs.Ytckffheolnmcnaa

end
section
namespace Go.Proofs.Ytckffheolnmcnaa.P
open Go.Proofs.YtckffheolnmcnaaW.PrintWords Go.Proofs.YtckffheolnmcnaaW.PrintLast Go.Proofs.YtckffheolnmcnaaW.PrintMore
set_option linter.unusedVariables false
def r23 : RV Try.prog 23 Int (Kd.int .u32) := rInt .u32 Try.underlying23 (by kernel_rfl)
def r3 : RV Try.prog 3 Int (Kd.int .i64) := rInt .i64 Try.underlying3 (by kernel_rfl)
def ok30 (x : S30) : Prop := (okI .u32) x.f0 ∧ (okI .i64) x.f1
def r30 : RV Try.prog 30 S30 k30 := rStruct Try.underlying30 (by kernel_rfl) (by kernel_rfl) (fCons (n := 1) _ rfl (by kernel_rfl) r23 (fCons (n := 1) _ rfl (by kernel_rfl) r3 (fNil _))) (fun x => ⟨x.1, x.2.1⟩) (by rintro w x cs ⟨c0, _, rfl, h0, c1, _, rfl, h1, rfl⟩; exact ⟨c0, _, rfl, h0, (by rw [List.append_nil]; exact h1)⟩) ok30 (fun x h => ⟨h.1, h.2.1⟩)
end Go.Proofs.Ytckffheolnmcnaa.P

end
section
set_option linter.unusedVariables false
set_option linter.unusedSimpArgs false
namespace Go.Proofs.Ytckffheolnmcnaa.P
open Go.RowKit Go.Proofs.YtckffheolnmcnaaW.PrintWords Go.Proofs.YtckffheolnmcnaaW.PrintLast Go.Proofs.YtckffheolnmcnaaW.PrintMore

/-- how many addresses a prefix of so many bits has -/
def un (b : Int) : Int := 2 ^ (32 - b).toNat
theorem un_pos (b : Int) : 0 < un b := by
  unfold un
  have := Nat.two_pow_pos (32 - b).toNat
  have h2 : (0 : Int) < (((2 : Nat) ^ (32 - b).toNat : Nat) : Int) := by exact_mod_cast this
  simpa using h2
theorem un_succ (b : Int) (h : b < 32) : un b = 2 * un (b + 1) := by
  unfold un
  rw [show (32 - b).toNat = (32 - (b + 1)).toNat + 1 by omega, Int.pow_succ]; omega
/-- an address -/
def isA (a : Int) : Prop := 0 ≤ a ∧ a ≤ 4294967295
/-- may a prefix be? -/
def mayB (a b : Int) : Bool := decide (0 ≤ b) && (decide (b ≤ 32) && decide (a % un b = 0))
theorem mayB_iff (a b : Int) : mayB a b = true ↔ 0 ≤ b ∧ b ≤ 32 ∧ a % un b = 0 := by
  unfold mayB; simp
theorem mask_is (b : Int) (h0 : 0 ≤ b) (h1 : b ≤ 32) : addr_mask.f b = some (4294967296 - un b) := by
  unfold addr_mask.f
  by_cases h : b = 0
  · subst h; rfl
  · rw [if_neg h, wrap64_in _ (by omega) (by omega), if_pos (by omega)]
    have := shl_all (32 - b).toNat (by omega)
    rw [show (((32 - b).toNat : Nat) : Int) = 32 - b by omega] at this
    rw [this]; rfl
theorem may_is (a b : Int) (ha : isA a) : addr_May.f a b = some (mayB a b) := by
  unfold addr_May.f mayB
  by_cases h0 : 0 ≤ b
  · rw [if_pos h0]
    by_cases h1 : b ≤ 32
    · rw [if_pos h1, mask_is b h0 h1, Option.bind_some]
      have := andNot_mask a (32 - b).toNat ha.1 (by have := ha.2; omega) (by omega)
      unfold un
      rw [this]
      simp [h0, h1]
      rfl
    · rw [if_neg h1]; simp [h0, h1]
  · rw [if_neg h0]; simp [h0]
/-- the bit of an address at a place -/
def bitI (a i : Int) : Int := a / un (i + 1) % 2
theorem bit_ev : ∀ (d : Nat) (a i : Int), 0 ≤ a → a ≤ 4294967295 → 0 ≤ i → i ≤ 31 → 31 - i = d → Evt (fun k => whirligigref01_Bit.l0 k a i) (bitI a i) := by
  intro d
  induction d with
  | zero =>
    intro a i h0 h1 h2 h3 hd
    obtain rfl : i = 31 := by omega
    refine Evt.step ?_
    simp only [whirligigref01_Bit.l0]
    refine Evt.ite_neg (by omega) (Evt.of fun k => ?_)
    unfold bitI un
    rw [Int.tmod_eq_emod_of_nonneg h0]
    simp
  | succ d ih =>
    intro a i h0 h1 h2 h3 hd
    refine Evt.step ?_
    simp only [whirligigref01_Bit.l0]
    refine Evt.ite_pos (by omega) ?_
    rw [Int.tdiv_eq_ediv_of_nonneg h0, wrap64_in _ (by omega) (by omega), Int.emod_eq_of_lt (by omega) (by omega)]
    have := ih (a / 2) (i + 1) (by omega) (by omega) (by omega) (by omega) (by omega)
    have e : bitI (a / 2) (i + 1) = bitI a i := by
      unfold bitI
      rw [un_succ (i + 1) (by omega), Int.ediv_ediv_of_nonneg (by decide)]
    rw [e] at this
    exact this
theorem refBit_ev (a i : Int) (ha : isA a) (h2 : 0 ≤ i) (h3 : i ≤ 31) : Evt (fun k => whirligigref01_Bit.f k a i) (bitI a i) :=
  bit_ev (31 - i).toNat a i ha.1 ha.2 h2 h3 (by omega)
theorem mod_un (a i : Int) (h : 0 ≤ a) (h1 : i ≤ 31) : a % un i = a % un (i + 1) + un (i + 1) * bitI a i := by
  have hp := un_pos (i + 1)
  rw [un_succ i (by omega)]
  unfold bitI
  have e1 := Int.emod_add_mul_ediv a (un (i + 1))
  have e2 := Int.emod_add_mul_ediv a (2 * un (i + 1))
  have e3 := Int.emod_add_mul_ediv (a / un (i + 1)) 2
  have e4 : a / un (i + 1) / 2 = a / (2 * un (i + 1)) := by rw [Int.ediv_ediv_of_nonneg (Int.le_of_lt hp), Int.mul_comm]
  rw [e4] at e3
  generalize a / (2 * un (i + 1)) = q at *
  generalize a / un (i + 1) % 2 = s at *
  generalize a / un (i + 1) = p at *
  generalize un (i + 1) = u at *
  have e5 : u * p = u * s + 2 * u * q := by
    rw [← e3, Int.mul_add, ← Int.mul_assoc, Int.mul_comm u 2]
  omega
theorem refMayLoop_ev : ∀ (d : Nat) (a i b : Int), isA a → 0 ≤ i → i ≤ 32 → 32 - i = d → Evt (fun k => whirligigref01_May.l0 k i a b) (decide (a % un i = 0)) := by
  intro d
  induction d with
  | zero =>
    intro a i b ha h0 h1 hd
    obtain rfl : i = 32 := by omega
    refine Evt.step ?_
    simp only [whirligigref01_May.l0]
    refine Evt.ite_neg (by omega) (Evt.of fun k => ?_)
    have : a % un 32 = 0 := by show a % 1 = 0; omega
    rw [this]; rfl
  | succ d ih =>
    intro a i b ha h0 h1 hd
    refine Evt.step ?_
    simp only [whirligigref01_May.l0]
    refine Evt.ite_pos (by omega) ?_
    refine Evt.bind (refBit_ev a i ha h0 (by omega)) ?_
    have hm := mod_un a i ha.1 (by omega)
    have hp := un_pos (i + 1)
    have hr : 0 ≤ a % un (i + 1) := Int.emod_nonneg _ (by omega)
    by_cases hb : bitI a i = 0
    · refine Evt.ite_pos hb ?_
      rw [wrap64_in _ (by omega) (by omega)]
      have := ih a (i + 1) b ha (by omega) (by omega) (by omega)
      rw [hb, Int.mul_zero, Int.add_zero] at hm
      rw [hm]; exact this
    · refine Evt.ite_neg hb (Evt.of fun k => ?_)
      have hb1 : bitI a i = 1 := by unfold bitI at *; omega
      rw [hb1, Int.mul_one] at hm
      rw [decide_eq_false (by omega)]
theorem refMay_ev (a b : Int) (ha : isA a) : Evt (fun k => whirligigref01_May.f k a b) (mayB a b) := by
  unfold whirligigref01_May.f mayB
  by_cases h0 : b < 0
  · refine Evt.ite_pos h0 (Evt.step ?_)
    simp only [whirligigref01_May.j0]
    refine Evt.ite_pos (by simp) (Evt.of fun k => ?_)
    rw [decide_eq_false (by omega : ¬ 0 ≤ b)]; rfl
  · refine Evt.ite_neg h0 (Evt.step ?_)
    simp only [whirligigref01_May.j0]
    by_cases h1 : b > 32
    · refine Evt.ite_pos (decide_eq_true h1) (Evt.of fun k => ?_)
      rw [decide_eq_false (by omega : ¬ b ≤ 32)]; simp
    · refine Evt.ite_neg (by simpa using h1) ?_
      have := refMayLoop_ev (32 - b).toNat a b b ha (by omega) (by omega) (by omega)
      rw [decide_eq_true (by omega : 0 ≤ b), decide_eq_true (by omega : b ≤ 32)]
      exact this
/-- does a prefix have an address? -/
def inB (a b x : Int) : Bool := decide (x - x % un b = a)
def hasB (a b x : Int) : Bool := mayB a b && inB a b x
theorem has_is (a b x : Int) (ha : isA a) (hx : isA x) : addr_Has.f a b x = some (hasB a b x) := by
  unfold addr_Has.f hasB
  rw [may_is a b ha, Option.bind_some]
  by_cases h : mayB a b = true
  · obtain ⟨h0, h1, h2⟩ := (mayB_iff a b).1 h
    rw [if_pos h, mask_is b h0 h1, Option.bind_some]
    have := and_mask x (32 - b).toNat hx.1 (by have := hx.2; omega) (by omega)
    unfold un
    rw [this, h]
    unfold inB un
    simp only [Bool.true_and]
    rfl
  · rw [if_neg h]
    simp at h
    rw [h]; rfl
theorem refHasLoop_ev : ∀ (d : Nat) (a b x i : Int), isA a → isA x → 0 ≤ i → i ≤ b → b ≤ 32 → b - i = d → a / un i = x / un i →
    Evt (fun k => whirligigref01_Has.l0 k x i a b) (decide (a / un b = x / un b)) := by
  intro d
  induction d with
  | zero =>
    intro a b x i ha hx h0 h1 h2 hd he
    obtain rfl : i = b := by omega
    refine Evt.step ?_
    simp only [whirligigref01_Has.l0]
    refine Evt.ite_neg (by omega) (Evt.of fun k => ?_)
    rw [decide_eq_true he]
  | succ d ih =>
    intro a b x i ha hx h0 h1 h2 hd he
    refine Evt.step ?_
    simp only [whirligigref01_Has.l0]
    refine Evt.ite_pos (by omega) ?_
    refine Evt.bind (refBit_ev a i ha h0 (by omega)) ?_
    refine Evt.bind (refBit_ev x i hx h0 (by omega)) ?_
    have hp := un_pos (i + 1)
    have ea : a / un (i + 1) / 2 = a / un i := by rw [Int.ediv_ediv_of_nonneg (Int.le_of_lt hp), Int.mul_comm, ← un_succ i (by omega)]
    have ex : x / un (i + 1) / 2 = x / un i := by rw [Int.ediv_ediv_of_nonneg (Int.le_of_lt hp), Int.mul_comm, ← un_succ i (by omega)]
    by_cases hb : bitI a i = bitI x i
    · refine Evt.ite_pos hb ?_
      rw [wrap64_in _ (by omega) (by omega)]
      refine ih a b x (i + 1) ha hx (by omega) (by omega) h2 (by omega) ?_
      unfold bitI at hb
      omega
    · refine Evt.ite_neg hb (Evt.of fun k => ?_)
      rw [decide_eq_false]
      intro hn
      apply hb
      have key : ∀ j : Nat, i + 1 + j ≤ 32 → a / un (i + 1 + j) = x / un (i + 1 + j) → a / un (i + 1) = x / un (i + 1) := by
        intro j
        induction j with
        | zero => intro _ h; simpa using h
        | succ j ihj =>
          intro hj h
          apply ihj (by omega)
          have hp2 := un_pos (i + 1 + j + 1)
          have e : ∀ z : Int, z / un (i + 1 + j) = z / un (i + 1 + j + 1) / 2 := fun z => by
            rw [Int.ediv_ediv_of_nonneg (Int.le_of_lt hp2), Int.mul_comm, ← un_succ (i + 1 + j) (by omega)]
          rw [e a, e x]
          have h' : a / un (i + 1 + j + 1) = x / un (i + 1 + j + 1) := by
            rw [show i + 1 + (j : Int) + 1 = i + 1 + ((j + 1 : Nat) : Int) by omega]; exact h
          rw [h']
      have := key (b - i - 1).toNat (by omega) (by rw [show i + 1 + (((b - i - 1).toNat : Nat) : Int) = b by omega]; exact hn)
      unfold bitI
      rw [this]
theorem div_in (a b x : Int) (hm : a % un b = 0) : (a / un b = x / un b) ↔ x - x % un b = a := by
  have hp := un_pos b
  have e1 := Int.emod_add_mul_ediv a (un b)
  have e2 := Int.emod_add_mul_ediv x (un b)
  rw [hm] at e1
  constructor
  · intro h; rw [← h] at e2; omega
  · intro h
    have : un b * (x / un b) = un b * (a / un b) := by omega
    exact (Int.eq_of_mul_eq_mul_left (by omega) this).symm
theorem refHas_ev (a b x : Int) (ha : isA a) (hx : isA x) (hm : mayB a b = true) : Evt (fun k => whirligigref01_Has.f k a b x) (inB a b x) := by
  obtain ⟨h0, h1, h2⟩ := (mayB_iff a b).1 hm
  have := refHasLoop_ev b.toNat a b x 0 ha hx (by omega) h0 h1 (by omega) (by
    have : un 0 = 4294967296 := rfl
    rw [this]
    have := ha.1; have := ha.2; have := hx.1; have := hx.2
    omega)
  unfold inB
  rw [show decide (x - x % un b = a) = decide (a / un b = x / un b) from decide_eq_decide.2 (div_in a b x h2).symm]
  exact this
/-- does a prefix contain another one? -/
def contB (a b c d : Int) : Bool := mayB c d && (decide (b ≤ d) && hasB a b c)
theorem contains_is (a b c d : Int) (ha : isA a) (hc : isA c) : addr_Contains.f a b c d = some (contB a b c d) := by
  unfold addr_Contains.f contB
  rw [may_is c d hc, Option.bind_some]
  by_cases h : mayB c d = true
  · rw [if_pos h, h]
    by_cases h1 : b ≤ d
    · rw [if_pos h1, has_is a b c ha hc, decide_eq_true h1]; rfl
    · rw [if_neg h1, decide_eq_false h1]; rfl
  · rw [if_neg h]; simp at h; rw [h]; rfl
theorem refContains_ev (a b c d : Int) (ha : isA a) (hc : isA c) : Evt (fun k => whirligigref01_Contains.f k a b c d) (contB a b c d) := by
  unfold whirligigref01_Contains.f contB
  refine Evt.bind (refMay_ev a b ha) ?_
  by_cases h : mayB a b = true
  · refine Evt.ite_pos h (Evt.bind (refMay_ev c d hc) ?_)
    by_cases h1 : mayB c d = true
    · refine Evt.ite_pos h1 ?_
      by_cases h2 : b ≤ d
      · refine Evt.ite_pos h2 (Evt.bind (refHas_ev a b c ha hc h) (Evt.of fun k => ?_))
        rw [h1, decide_eq_true h2]; unfold hasB; rw [h]; rfl
      · refine Evt.ite_neg h2 (Evt.of fun k => ?_)
        rw [h1, decide_eq_false h2]; rfl
    · refine Evt.ite_neg h1 (Evt.of fun k => ?_)
      simp at h1; rw [h1]; rfl
  · refine Evt.ite_neg h (Evt.of fun k => ?_)
    simp at h
    unfold hasB; rw [h]; simp
end Go.Proofs.Ytckffheolnmcnaa.P

end
section
set_option linter.unusedVariables false
set_option linter.unusedSimpArgs false
namespace Go.Proofs.Ytckffheolnmcnaa.P
open Go.RowKit Go.Proofs.YtckffheolnmcnaaW.PrintWords Go.Proofs.YtckffheolnmcnaaW.PrintLast Go.Proofs.YtckffheolnmcnaaW.PrintMore

theorem sort_two : sortP [(⟨167772160, 9⟩ : S30), ⟨176160768, 9⟩] = [(⟨167772160, 9⟩ : S30), ⟨176160768, 9⟩] := by
  unfold sortP
  apply List.mergeSort_of_pairwise
  decide
theorem lives_ev : Evt (fun k => whirligiglaw01_lives.f k) true := by
  refine Evt.of_mono (K := 12) (fun k => whirligiglaw01_lives.mono k) ?_
  unfold whirligiglaw01_lives.f addr_Plain.f addr_plain.f
  rw [sort_two]
  decide +kernel
/-- the beginning of a prefix of v bits -/
def flo (a v : Int) : Int := a - a % un v
theorem flo_zero (a : Int) (ha : isA a) : flo a 0 = 0 := by
  have : un 0 = 4294967296 := rfl
  unfold flo; rw [this]; have := ha.1; have := ha.2; omega
theorem flo_isA (a v : Int) (ha : isA a) : isA (flo a v) := by
  have hp := un_pos v
  have h1 := Int.emod_nonneg a (show un v ≠ 0 by omega)
  have h2 := Int.emod_add_mul_ediv a (un v)
  have h3 : 0 ≤ un v * (a / un v) := Int.mul_nonneg (by omega) (Int.ediv_nonneg ha.1 (by omega))
  have := ha.1; have := ha.2
  unfold flo; constructor <;> omega
theorem flo_mod (a v : Int) : flo a v % un v = 0 := by
  have hp := un_pos v
  have h2 := Int.emod_add_mul_ediv a (un v)
  have : flo a v = un v * (a / un v) := by unfold flo; omega
  rw [this]; exact Int.mul_emod_right _ _
theorem flo_may (a v : Int) (h0 : 0 ≤ v) (h1 : v ≤ 32) : mayB (flo a v) v = true := (mayB_iff _ _).2 ⟨h0, h1, flo_mod a v⟩
theorem flo_self (a v : Int) (h : a % un v = 0) : flo a v = a := by unfold flo; omega
theorem mod_half (a v : Int) (h : v ≤ 32) : (a % un (v - 1)) % un v = a % un v := by
  rw [show un (v - 1) = 2 * un v by have := un_succ (v - 1) (by omega); rwa [show v - 1 + 1 = v by omega] at this]
  exact Int.emod_emod_of_dvd _ (Int.dvd_mul_left _ _)
/-- the halves of what is one bit shorter -/
theorem flo_down (a v : Int) (h : v ≤ 32) : flo (flo a v) (v - 1) = flo a (v - 1) ∧ (flo a v = flo a (v - 1) ∨ flo a v = flo a (v - 1) + un v) := by
  have e := mod_half a v h
  have hu : un (v - 1) = 2 * un v := by have := un_succ (v - 1) (by omega); rwa [show v - 1 + 1 = v by omega] at this
  have hp := un_pos v
  have h1 := Int.emod_nonneg a (show un (v - 1) ≠ 0 by omega)
  have h2 := Int.emod_lt_of_pos a (show 0 < un (v - 1) by omega)
  have hm := flo_mod a (v - 1)
  have hd : ∀ t, 0 ≤ t → t < un (v - 1) → (flo a (v - 1) + t) % un (v - 1) = t := by
    intro t t0 t1
    rw [Int.add_emod, hm, Int.zero_add, Int.emod_emod_of_dvd _ (Int.dvd_refl _), Int.emod_eq_of_lt t0 t1]
  unfold flo at *
  by_cases hc : a % un (v - 1) < un v
  · rw [Int.emod_eq_of_lt h1 hc] at e
    have e1 : a - a % un v = a - a % un (v - 1) := by rw [e]
    have := hd 0 (by omega) (by omega)
    rw [Int.add_zero] at this
    rw [e1, this]
    exact ⟨by omega, .inl rfl⟩
  · have e2 : (a % un (v - 1)) % un v = a % un (v - 1) - un v := by
      rw [← Int.sub_emod_right, Int.emod_eq_of_lt (by omega) (by omega)]
    rw [e2] at e
    have e1 : a - a % un v = a - a % un (v - 1) + un v := by rw [← e]; omega
    have := hd (un v) (by omega) (by omega)
    rw [e1, this]
    exact ⟨by omega, .inr rfl⟩
/-- stands a at v with c? -/
def good (a c d v : Int) : Prop := v ≤ d ∧ flo a v = flo c v
theorem cont_at (a c d v : Int) (ha : isA a) (hc : isA c) (hd : mayB c d = true) (h0 : 0 ≤ v) (h1 : v ≤ 32) : contB (flo a v) v c d = true ↔ good a c d v := by
  unfold contB hasB inB good
  rw [hd, flo_may a v h0 h1]
  simp only [Bool.true_and, Bool.and_eq_true, decide_eq_true_eq]
  constructor
  · rintro ⟨h2, h3⟩; exact ⟨h2, h3.symm⟩
  · rintro ⟨h2, h3⟩; exact ⟨h2, h3.symm⟩
theorem aboveLoop_ev (a b c d : Int) (ha : isA a) (hc : isA c) (hb : b ≤ 32) (hd : mayB c d = true) : ∀ (n : Nat) (v : Int), v.toNat = n → 0 ≤ v → v ≤ b → (∀ v', v < v' → v' ≤ b → ¬ good a c d v') →
    ∃ u, 0 ≤ u ∧ u ≤ b ∧ good a c d u ∧ (∀ v', u < v' → v' ≤ b → ¬ good a c d v') ∧ Evt (fun k => addr_Above.l0 k (flo a v) v c d) (flo a u, u, 0) := by
  intro n
  induction n with
  | zero =>
    intro v hn h0 h1 hmax
    obtain rfl : v = 0 := by omega
    have hg : good a c d 0 := ⟨((mayB_iff c d).1 hd).1, by rw [flo_zero a ha, flo_zero c hc]⟩
    refine ⟨0, h0, h1, hg, hmax, Evt.step ?_⟩
    simp only [addr_Above.l0]
    refine Evt.bindc (contains_is _ _ _ _ (flo_isA a 0 ha) hc) ?_
    refine Evt.ite_pos ((cont_at a c d 0 ha hc hd (by omega) (by omega)).2 hg) (Evt.of fun k => rfl)
  | succ n ih =>
    intro v hn h0 h1 hmax
    by_cases hg : good a c d v
    · refine ⟨v, h0, h1, hg, hmax, Evt.step ?_⟩
      simp only [addr_Above.l0]
      refine Evt.bindc (contains_is _ _ _ _ (flo_isA a v ha) hc) ?_
      exact Evt.ite_pos ((cont_at a c d v ha hc hd (by omega) (by omega)).2 hg) (Evt.of fun k => rfl)
    · obtain ⟨u, u0, u1, u2, u3, u4⟩ := ih (v - 1) (by omega) (by omega) (by omega) (fun v' h h' => by
        by_cases e : v' = v
        · subst e; exact hg
        · exact hmax v' (by omega) h')
      refine ⟨u, u0, u1, u2, u3, Evt.step ?_⟩
      simp only [addr_Above.l0]
      refine Evt.bindc (contains_is _ _ _ _ (flo_isA a v ha) hc) ?_
      refine Evt.ite_neg (fun h => hg ((cont_at a c d v ha hc hd (by omega) (by omega)).1 h)) ?_
      rw [wrap64_in _ (by omega) (by omega)]
      refine Evt.bindc (mask_is (v - 1) (by omega) (by omega)) ?_
      have hf := flo_isA a v ha
      have := and_mask (flo a v) (32 - (v - 1)).toNat hf.1 (by have := hf.2; omega) (by omega)
      have e : bits .and .u32 (flo a v) (4294967296 - un (v - 1)) = flo a (v - 1) := by
        rw [← (flo_down a v (by omega)).1]; exact this
      rw [e]
      exact u4
/-- what stands above two -/
def isTop (a b c d u : Int) : Prop := 0 ≤ u ∧ u ≤ b ∧ u ≤ d ∧ flo a u = flo c u ∧ ∀ v, u < v → v ≤ b → v ≤ d → flo a v ≠ flo c v
theorem isTop.symm {a b c d u : Int} (h : isTop a b c d u) : isTop c d a b u := ⟨h.1, h.2.2.1, h.2.1, h.2.2.2.1.symm, fun v h1 h2 h3 e => h.2.2.2.2 v h1 h3 h2 e.symm⟩
theorem isTop.one {a b c d u v : Int} (h : isTop a b c d u) (g : isTop a b c d v) : u = v := by
  obtain ⟨h1, h2, h3, h4, h5⟩ := h
  obtain ⟨g1, g2, g3, g4, g5⟩ := g
  rcases Int.lt_trichotomy u v with e | e | e
  · exact absurd g4 (h5 v e g2 g3)
  · exact e
  · exact absurd h4 (g5 u e h2 h3)
theorem above_ev (a b c d : Int) (ha : isA a) (hc : isA c) (hb : mayB a b = true) (hd : mayB c d = true) : ∃ u, isTop a b c d u ∧ Evt (fun k => addr_Above.f k a b c d) (flo a u, u, 0) := by
  obtain ⟨b0, b1, b2⟩ := (mayB_iff a b).1 hb
  obtain ⟨u, u0, u1, u2, u3, u4⟩ := aboveLoop_ev a b c d ha hc b1 hd b.toNat b rfl b0 (by omega) (fun v' h h' => by omega)
  refine ⟨u, ⟨u0, u1, u2.1, u2.2, fun v h1 h2 h3 e => u3 v h1 h2 ⟨h3, e⟩⟩, ?_⟩
  unfold addr_Above.f
  refine Evt.bindc (may_is a b ha) (Evt.ite_pos hb ?_)
  refine Evt.bindc (may_is c d hc) ?_
  refine Evt.step ?_
  simp only [addr_Above.j0]
  refine Evt.ite_neg (by rw [hd]; decide) ?_
  rw [flo_self a b b2] at u4
  exact u4
theorem above_not (a b c d : Int) (ha : isA a) (hc : isA c) (h : ¬ (mayB a b = true ∧ mayB c d = true)) : Evt (fun k => addr_Above.f k a b c d) (0, 0, 1) := by
  unfold addr_Above.f
  refine Evt.bindc (may_is a b ha) ?_
  by_cases hb : mayB a b = true
  · refine Evt.ite_pos hb ?_
    refine Evt.bindc (may_is c d hc) (Evt.step ?_)
    simp only [addr_Above.j0]
    refine Evt.ite_pos ?_ (Evt.of fun k => rfl)
    have : mayB c d ≠ true := fun e => h ⟨hb, e⟩
    simp at this
    rw [this]; rfl
  · refine Evt.ite_neg hb (Evt.step ?_)
    simp only [addr_Above.j0]
    exact Evt.ite_pos trivial (Evt.of fun k => rfl)
theorem top_le (a b : Int) (ha : isA a) (hb : mayB a b = true) : a + un b ≤ 4294967296 := by
  obtain ⟨b0, b1, b2⟩ := (mayB_iff a b).1 hb
  have h6 : (4294967296 : Int) = un b * 2 ^ b.toNat := by
    unfold un
    rw [← Int.pow_add, show (32 - b).toNat + b.toNat = 32 by omega]; rfl
  have h7 : un b ∣ 4294967296 - a := Int.dvd_sub ⟨_, h6⟩ (Int.dvd_of_emod_eq_zero b2)
  have := Int.le_of_dvd (by have := ha.2; omega) h7
  omega
theorem shl_one' (n : Nat) (hn : n ≤ 31) : shl .u32 1 n = 2 ^ n := by
  have : ∀ n : Fin 32, shl .u32 1 n.val = 2 ^ n.val := by decide +kernel
  exact this ⟨n, by omega⟩
theorem halves_is (a b : Int) (ha : isA a) (hb : mayB a b = true) (h : b ≠ 32) : addr_Halves.f a b = some (a, b + 1, a + un (b + 1), b + 1, 0) := by
  obtain ⟨b0, b1, b2⟩ := (mayB_iff a b).1 hb
  unfold addr_Halves.f
  rw [may_is a b ha, Option.bind_some, if_pos hb, if_neg h]
  unfold addr_halves.f
  rw [wrap64_in (31 - b) (by omega) (by omega), wrap64_in (b + 1) (by omega) (by omega), if_pos (by omega)]
  have e1 := shl_one' (31 - b).toNat (by omega)
  rw [show (((31 - b).toNat : Nat) : Int) = 31 - b by omega] at e1
  have e2 : (2 : Int) ^ (31 - b).toNat = un (b + 1) := by unfold un; rw [show (32 - (b + 1)).toNat = (31 - b).toNat by omega]
  have hu := un_succ b (by omega)
  have hp := un_pos (b + 1)
  have e3 := or_join a (un (b + 1)) (32 - b).toNat (by omega) ha.1 b2 (by have := ha.2; omega) (by omega) (by show un (b + 1) < un b; omega)
  rw [e1, e2, e3]; rfl
end Go.Proofs.Ytckffheolnmcnaa.P

end
section
namespace Go.Proofs.Ytckffheolnmcnaa.Pure
open Go.RowKit Go.Proofs.Ytckffheolnmcnaa.P Go.Proofs.YtckffheolnmcnaaW.PrintWords Go.Proofs.YtckffheolnmcnaaW.PrintLast Go.Proofs.YtckffheolnmcnaaW.PrintMore
set_option linter.unusedVariables false
set_option linter.unusedSimpArgs false

theorem AddrAbove (x0 : S30) (x1 : S30) (ok_0 : (ok30) x0) (ok_1 : (ok30) x1) : ∃ k, Go.Proofs.Ytckffheolnmcnaa.P.whirligiglaw01_AddrAbove.f k x0.f0 x0.f1 x1.f0 x1.f1 = some true := by
  obtain ⟨a, b⟩ := x0
  obtain ⟨c, d⟩ := x1
  have ha : isA a := okI_u32 ok_0.1
  have hc : isA c := okI_u32 ok_1.1
  show ∃ k, Go.Proofs.Ytckffheolnmcnaa.P.whirligiglaw01_AddrAbove.f k a b c d = some true
  refine Evt.ex ?_
  have hL : Evt (fun k => (whirligiglaw01_lives.f k).bind fun t => some t) true := Evt.bind lives_ev (Evt.pure _)
  unfold whirligiglaw01_AddrAbove.f
  by_cases hm : mayB a b = true ∧ mayB c d = true
  · obtain ⟨hb, hd⟩ := hm
    obtain ⟨b0, b1, b2⟩ := (mayB_iff a b).1 hb
    obtain ⟨d0, d1, d2⟩ := (mayB_iff c d).1 hd
    obtain ⟨u, ht, hu⟩ := above_ev a b c d ha hc hb hd
    obtain ⟨v, hs, hv⟩ := above_ev c d a b hc ha hd hb
    have huv := ht.one hs.symm
    subst huv
    obtain ⟨u0, u1, u2, u3, u4⟩ := ht
    have hx := flo_isA a u ha
    have hmu := flo_may a u u0 (by omega)
    refine Evt.bind hu (Evt.bind hv (Evt.bind (refMay_ev a b ha) ?_))
    refine Evt.ite_pos hb (Evt.bind (refMay_ev c d hc) (Evt.step ?_))
    simp only [whirligiglaw01_AddrAbove.j0]
    rw [hd, ← u3]
    refine Evt.ite_neg (by decide) (Evt.ite_pos trivial (Evt.ite_pos trivial (Evt.ite_neg (by simp) ?_)))
    have c1 : contB (flo a u) u a b = true := by
      unfold contB hasB inB; rw [hb, hmu, decide_eq_true u1]; simp only [Bool.true_and, decide_eq_true_eq]; rfl
    have c2 : contB (flo a u) u c d = true := by
      unfold contB hasB inB; rw [hd, hmu, decide_eq_true u2]; simp only [Bool.true_and, decide_eq_true_eq]; exact u3.symm
    refine Evt.bind (refContains_ev _ _ _ _ hx ha) (Evt.ite_pos c1 (Evt.bind (refContains_ev _ _ _ _ hx hc) (Evt.step ?_)))
    simp only [whirligiglaw01_AddrAbove.j1]
    rw [c2]
    refine Evt.ite_neg (by decide) ?_
    by_cases h32 : u = 32
    · refine Evt.ite_pos h32 (Evt.ite_pos ?_ hL)
      have e1 : b = d := by omega
      have e2 : ∀ z, flo z 32 = z := fun z => flo_self z 32 (by show z % 1 = 0; omega)
      rw [h32, e2, e2] at u3
      simp [e1, u3]
    · refine Evt.ite_neg h32 ?_
      refine Evt.bindc (halves_is _ _ hx hmu h32) (Evt.ite_pos rfl ?_)
      by_cases p1 : (flo a u == a && u == b) = true
      · exact Evt.ite_pos p1 hL
      · refine Evt.ite_neg p1 ?_
        by_cases p2 : (flo a u == c && u == d) = true
        · exact Evt.ite_pos p2 hL
        · refine Evt.ite_neg p2 ?_
          have hub : u < b := by
            rcases Int.lt_or_eq_of_le u1 with h | h
            · exact h
            · exfalso; apply p1; subst h; rw [flo_self a u b2]; simp
          have hud : u < d := by
            rcases Int.lt_or_eq_of_le u2 with h | h
            · exact h
            · exfalso; apply p2; subst h; rw [u3, flo_self c u d2]; simp
          have hne := u4 (u + 1) (by omega) (by omega) (by omega)
          have hno : ∀ x, contB x (u + 1) a b = true → contB x (u + 1) c d = true → False := by
            intro x h1 h2
            unfold contB hasB inB at h1 h2
            simp only [Bool.and_eq_true, decide_eq_true_eq] at h1 h2
            exact hne (h1.2.2.2.trans h2.2.2.2.symm)
          have hy : isA (flo a u + un (u + 1)) := by
            have := top_le _ _ hx hmu
            have := un_succ u (by omega)
            have := un_pos (u + 1)
            have := hx.1
            constructor <;> omega
          have hrest : Evt (fun k => (whirligigref01_Contains.f k (flo a u + un (u + 1)) (u + 1) a b).bind fun t => if t = true then ((whirligigref01_Contains.f k (flo a u + un (u + 1)) (u + 1) c d).bind fun t => if t = true then some false else ((whirligiglaw01_lives.f k).bind fun t => some t)) else ((whirligiglaw01_lives.f k).bind fun t => some t)) true := by
            refine Evt.bind (refContains_ev _ _ _ _ hy ha) ?_
            by_cases q : contB (flo a u + un (u + 1)) (u + 1) a b = true
            · refine Evt.ite_pos q (Evt.bind (refContains_ev _ _ _ _ hy hc) (Evt.ite_neg (fun q2 => hno _ q q2) hL))
            · exact Evt.ite_neg q hL
          refine Evt.bind (refContains_ev _ _ _ _ hx ha) ?_
          by_cases q : contB (flo a u) (u + 1) a b = true
          · refine Evt.ite_pos q (Evt.bind (refContains_ev _ _ _ _ hx hc) (Evt.ite_neg (fun q2 => hno _ q q2) hrest))
          · exact Evt.ite_neg q hrest
  · refine Evt.bind (above_not a b c d ha hc hm) (Evt.bind (above_not c d a b hc ha (fun h => hm ⟨h.2, h.1⟩)) (Evt.bind (refMay_ev a b ha) ?_))
    by_cases hb : mayB a b = true
    · refine Evt.ite_pos hb (Evt.bind (refMay_ev c d hc) (Evt.step ?_))
      simp only [whirligiglaw01_AddrAbove.j0]
      have hd : mayB c d ≠ true := fun e => hm ⟨hb, e⟩
      simp at hd
      rw [hd]
      exact Evt.ite_pos rfl (Evt.ite_pos rfl (Evt.ite_pos trivial (Evt.ite_pos trivial hL)))
    · refine Evt.ite_neg hb (Evt.step ?_)
      simp only [whirligiglaw01_AddrAbove.j0]
      exact Evt.ite_pos trivial (Evt.ite_pos rfl (Evt.ite_pos trivial (Evt.ite_pos trivial hL)))
end Go.Proofs.Ytckffheolnmcnaa.Pure

end
