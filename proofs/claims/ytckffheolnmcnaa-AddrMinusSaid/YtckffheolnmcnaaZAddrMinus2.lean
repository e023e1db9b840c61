/- Part of the proof of RowAddrMinus: what it asks of functions, words and plain facts (put together by this session's own program, wip/tools/shake.py). -/
import Derived.Test.YtckffheolnmcnaaZAddrMinus0
import Derived.Test.YtckffheolnmcnaaZAddrMinus1
import Derived.Test.YtckffheolnmcnaaProg
import Derived.WalkKit
import Derived.ProofKit
import Derived.WalkMore
import Derived.Deep.LoopGhost
import Derived.Deep.QuietTactic
import Derived.BigQuiet
import Derived.OneCell
import Derived.IntWalk
import Derived.Laws.AppendOwn
import Derived.Laws.OwnMore
import Derived.RegionTactic
import Derived.Deep.RegionLaw
import Derived.Deep.RegionHeld3
import Derived.Deep.AppendLies
import Derived.OwnWalk
import Derived.Below
import Derived.WideShapes
import Derived.Laws.BytesString
import Derived.Laws.IdiomStrings
import Derived.Laws.BitsLemmas
import Derived.Sort.Grow
import Derived.Shelf.SlSortCmp.NoneTotal
import Derived.Ground.SlsfProg
import Derived.RangeFuncNested
import Derived.RangeFuncBox
import Derived.RangeFuncLeaves
import Derived.Shelf.Abstract
import Derived.OwnWalkIn
import Derived.TacticsInMore
import Derived.LoopNIn
import Derived.LoopIn
import Derived.Maps.AppendAt
import Derived.Laws.CopyRow
import Derived.Laws.IdiomCopy
import Derived.Shelf.Strings.Builder1
import Derived.Shelf.Strings.Builder2
import Derived.Shelf.Strings.OnBuilder
import Derived.Shelf.Small.Bits
import Derived.Shelf.Small.Wraps
import Derived.Shelf.Strings.BuilderF
import Derived.Shelf.Strings.BuilderK
import Derived.Shelf.Strings.Builder2Cap
import Derived.Shelf.Strconv.Itoa0
import Derived.Shelf.Strings.BuilderCap
import Derived.Ground.Names2Prog
import Derived.Shelf.Slices.SearchI
section
set_option linter.unusedVariables false
set_option linter.unusedSimpArgs false
namespace Go.Proofs.Ytckffheolnmcnaa
open Go.RowKit

theorem mkHid {p : Prop} (h : p) : Hid p := h
theorem below_tr {a b c d : World} (h : Below a.heap.size a b) (k : Below d.heap.size d c) (e1 : b.heap = d.heap := by rfl) (e2 : b.tape = d.tape := by rfl) (e3 : b.output = d.output := by rfl) (e4 : b.os = d.os := by rfl) : Below a.heap.size a c := by
  have s := h.size
  refine h.trans ⟨k.os.trans e4.symm, k.tape.trans e2.symm, k.output.trans e3.symm, by rw [e1]; exact k.size, fun i hi => ?_⟩
  rw [e1]; exact k.block i (by rw [← e1]; omega)
theorem app_list (l m : List UInt8) : (⟨l.toArray⟩ : ByteArray) ++ ⟨m.toArray⟩ = ⟨(l ++ m).toArray⟩ := by
  apply ByteArray.ext; simp [ByteArray.data_append]
end Go.Proofs.Ytckffheolnmcnaa

end
section
set_option linter.unusedVariables false
set_option linter.unusedSimpArgs false
namespace Go.Proofs.Ytckffheolnmcnaa
open Go.RowKit Go.Proofs.YtckffheolnmcnaaW.PrintWords Go.Proofs.YtckffheolnmcnaaW.PrintLast Go.Proofs.YtckffheolnmcnaaW.PrintMore

/-- a row that is read: its block, and its cells -/
theorem C_at {α : Type} {d : Kd α} {w : World} {A : Option Addr} {n : Nat} {xs : List α} (h : d.C w A n xs) (hs : 0 < d.sz) (hn : 0 < n) :
    ∃ b o, A = some ⟨b, o, none⟩ ∧ b < w.heap.size ∧ ∀ j x, xs[j]? = some x → ∃ c, c.length = d.sz ∧ d.K w x c ∧ ∀ i u, c[i]? = some u → w.cell? ⟨b, o + j * d.sz + i, none⟩ = some u := by
  obtain ⟨h1, h2, h3⟩ := h
  obtain ⟨⟨b, o, s⟩, rfl, hc⟩ := h3 hn
  obtain ⟨x, hx⟩ : ∃ x, xs[0]? = some x := ⟨_, List.getElem?_eq_getElem (h := by omega)⟩
  obtain ⟨c, c1, c2, c3⟩ := hc 0 x hx
  have k := c3 0 _ (List.getElem?_eq_getElem (h := by omega))
  have e : (⟨b, o, s⟩ : Addr).add (0 * d.sz + 0) = ⟨b, o, s⟩ := by rw [Nat.zero_mul]; simp [Addr.add]
  rw [e] at k
  have hsp : s = none := World.cell?_spot k
  subst hsp
  refine ⟨b, o, rfl, World.block_lt_of_cell? _ _ k, fun j x hj => ?_⟩
  obtain ⟨c, c1, c2, c3⟩ := hc j x hj
  refine ⟨c, c1, c2, fun i u hu => ?_⟩
  have := c3 i u hu
  rw [WideShapes.add_plain, ← Nat.add_assoc] at this
  exact this
/-- a row of flat elements of one's own, out of its cells -/
theorem flat_own {α : Type} {d : Kd α} {e n : Nat} {w w1 : World} {base : Nat} {v : Value} {xs : List α} {inner : List Value} (hf : ∀ {w : World} {x : α} {c : List Value}, d.K w x c → ∀ w1 b ok, d.M w1 b ok x c)
    (h : w1.ownsRow base e d.sz v n inner) (hn : n = xs.length) (hr : Reps (d.K w) d.sz xs inner) : d.R e w1 base (fun _ => True) v xs := by
  subst hn
  exact ⟨fun _ _ => trivial, inner, h, hr.1, fun j p hj => hf (hr.2 j p hj) _ _ _⟩
theorem Reps.one_ {α : Type} {d : Kd α} {w : World} {xs : List α} {inner : List Value} (hr : Reps (d.K w) d.sz xs inner) (hs : 0 < d.sz) : ∀ u ∈ inner, u.oneCell' = true := by
  intro u hu
  obtain ⟨i, hi⟩ := List.getElem?_of_mem hu
  have hlt := (List.getElem?_eq_some_iff.1 hi).1
  rw [hr.1] at hlt
  have hj : i / d.sz < xs.length := by rw [Nat.div_lt_iff_lt_mul hs]; exact hlt
  have hk := hr.2 (i / d.sz) _ (List.getElem?_eq_getElem hj)
  refine d.K_one hk u ?_
  refine List.mem_of_getElem? (i := i % d.sz) ?_
  rw [List.getElem?_take_of_lt (Nat.mod_lt _ hs), List.getElem?_drop, Nat.mul_comm, Nat.div_add_mod]
  exact hi
end Go.Proofs.Ytckffheolnmcnaa

end
section
set_option linter.unusedVariables false
namespace Go.Proofs.Ytckffheolnmcnaa
open Go.RowKit

/-- the digits of a number -/
def digF : Nat → Nat → List UInt8
  | 0, _ => []
  | f + 1, n => if n < 10 then [48 + UInt8.ofNat n] else digF f (n / 10) ++ [48 + UInt8.ofNat (n % 10)]
def dig (n : Nat) : List UInt8 := digF (n + 1) n
theorem digF_any : ∀ (n f g : Nat), n < f → n < g → digF f n = digF g n := by
  intro n
  induction n using Nat.strongRecOn with
  | _ n ih =>
    intro f g hf hg
    obtain ⟨f, rfl⟩ : ∃ m, f = m + 1 := ⟨f - 1, by omega⟩
    obtain ⟨g, rfl⟩ : ∃ m, g = m + 1 := ⟨g - 1, by omega⟩
    unfold digF
    by_cases h : n < 10
    · rw [if_pos h, if_pos h]
    · rw [if_neg h, if_neg h, ih (n / 10) (by omega) f g (by omega) (by omega)]
theorem dig_small (n : Nat) (h : n < 10) : dig n = [48 + UInt8.ofNat n] := by unfold dig digF; rw [if_pos h]
theorem dig_big (n : Nat) (h : ¬ n < 10) : dig n = dig (n / 10) ++ [48 + UInt8.ofNat (n % 10)] := by
  unfold dig
  rw [digF, if_neg h, digF_any (n / 10) n (n / 10 + 1) (by omega) (by omega)]

theorem dig_len : ∀ n, (dig n).length ≤ n + 1 := by
  intro n
  induction n using Nat.strongRecOn with
  | _ n ih =>
    by_cases h : n < 10
    · rw [dig_small n h]; simp
    · rw [dig_big n h, List.length_append]
      have := ih (n / 10) (by omega)
      simp; omega
theorem cell_of_alloc {w w' : World} {v : Value} {t : TypeId} (h : Below (w.alloc (Obj.cells #[v] t)).drew.heap.size (w.alloc (Obj.cells #[v] t)).drew w') : w'.cell? ⟨w.heap.size, 0, none⟩ = some v := by
  have h0 : (⟨w.heap.size, 0, none⟩ : Addr).block < (w.alloc (Obj.cells #[v] t)).drew.heap.size := by simp
  exact (h.cell h0).trans (World.cell?_alloc_mark _ _ _ _ _)
/-- 'string([]byte{c})' -/
theorem conv1 (w : World) (g cap : Nat) (c : Int) (h : w.cell? ⟨g, 0, none⟩ = some (.int .u8 c)) :
    (convert 65 9 (.slice (some ⟨g, 0, none⟩) 1 cap)).run Try.prog w = .ok (.string ⟨#[UInt8.ofNat c.toNat]⟩) w := by
  rw [run_convert_bytes_string w 65 9 5 (some ⟨g, 0, none⟩) 1 cap Try.underlying65 Try.underlying5 Try.underlying9]
  have hl := run_loadCells_list (P := Try.prog) w ⟨g, 0, none⟩ [.int .u8 c] (fun j v hj => by
    match j with
    | 0 => simp at hj; subst hj; simpa [Addr.add] using h
    | j + 1 => simp at hj)
  rw [run_bytesToString w ⟨g, 0, none⟩ 1 cap [c] (by simpa using hl)]
  rfl
theorem u32_in (x : Int) (h0 : 0 ≤ x) (h : x < 4294967296) : IntKind.u32.wrap x = x := by
  unfold IntKind.wrap
  simp [IntKind.bits, IntKind.signed]
  omega
theorem byte_dig (n : Nat) (h : n < 10) : UInt8.ofNat (48 + (n : Int)).toNat = 48 + UInt8.ofNat n := by
  rw [show (48 + (n : Int)).toNat = 48 + n by omega]
  apply UInt8.toNat_inj.1
  simp
end Go.Proofs.Ytckffheolnmcnaa

end
section
set_option linter.unusedVariables false
set_option linter.unusedSimpArgs false
namespace Go.Proofs.Ytckffheolnmcnaa
open Go.RowKit Go.Proofs.YtckffheolnmcnaaW.PrintWords Go.Proofs.YtckffheolnmcnaaW.PrintLast Go.Proofs.YtckffheolnmcnaaW.PrintMore

/-- with rounds enough, r comes out -/
def Evt {α : Type} (g : Nat → Option α) (r : α) : Prop := ∃ K, ∀ k, K ≤ k → g k = some r
theorem Evt.ex {α : Type} {g : Nat → Option α} {r : α} (h : Evt g r) : ∃ k, g k = some r := h.imp fun K hK => hK K (Nat.le_refl _)
theorem Evt.pure {α : Type} (r : α) : Evt (fun _ => some r) r := ⟨0, fun _ _ => rfl⟩
theorem Evt.of {α : Type} {g : Nat → Option α} {r : α} (h : ∀ k, g k = some r) : Evt g r := ⟨0, fun k _ => h k⟩
theorem Evt.bind {α β : Type} {g : Nat → Option α} {f : Nat → α → Option β} {a : α} {b : β} (h : Evt g a) (h2 : Evt (fun k => f k a) b) : Evt (fun k => (g k).bind (f k)) b := by
  obtain ⟨K, h⟩ := h
  obtain ⟨L, h2⟩ := h2
  exact ⟨max K L, fun k hk => by show (g k).bind (f k) = some b; rw [h k (by omega)]; exact h2 k (by omega)⟩
theorem Evt.bindc {α β : Type} {o : Option α} {f : Nat → α → Option β} {a : α} {b : β} (h : o = some a) (h2 : Evt (fun k => f k a) b) : Evt (fun k => o.bind (f k)) b := by
  subst h; exact h2
theorem Evt.step {α : Type} {g : Nat → Option α} {r : α} (h : Evt (fun k => g (k + 1)) r) : Evt g r := by
  obtain ⟨K, h⟩ := h
  refine ⟨K + 1, fun k hk => ?_⟩
  obtain ⟨k, rfl⟩ : ∃ m, k = m + 1 := ⟨k - 1, by omega⟩
  exact h k (by omega)
theorem Evt.ite_pos {α : Type} {c : Prop} [Decidable c] {x y : Nat → Option α} {r : α} (hc : c) (h : Evt x r) : Evt (fun k => if c then x k else y k) r := by
  simp only [if_pos hc]; exact h
theorem Evt.ite_neg {α : Type} {c : Prop} [Decidable c] {x y : Nat → Option α} {r : α} (hc : ¬ c) (h : Evt y r) : Evt (fun k => if c then x k else y k) r := by
  simp only [if_neg hc]; exact h
theorem Evt.of_mono {α : Type} {g : Nat → Option α} {r : α} {K : Nat} (hm : ∀ k, LeO (g k) (g (k + 1))) (h : g K = some r) : Evt g r := by
  refine ⟨K, fun k hk => ?_⟩
  obtain ⟨d, rfl⟩ : ∃ d, k = K + d := ⟨k - K, by omega⟩
  clear hk
  induction d with
  | zero => exact h
  | succ d ih => exact hm _ _ ih
theorem wrap64_in (x : Int) (h0 : -9223372036854775808 ≤ x) (h1 : x ≤ 9223372036854775807) : wrap64 x = x := by unfold wrap64; omega

theorem mask_not (n : Nat) (hn : n ≤ 32) : ~~~(BitVec.ofInt 32 (4294967296 - 2 ^ n)) = BitVec.ofNat 32 (2 ^ n - 1) := by
  have : ∀ n : Fin 33, ~~~(BitVec.ofInt 32 (4294967296 - 2 ^ n.val)) = BitVec.ofNat 32 (2 ^ n.val - 1) := by decide +kernel
  exact this ⟨n, by omega⟩
theorem shl_all (n : Nat) (hn : n ≤ 32) : shl .u32 4294967295 n = 4294967296 - 2 ^ n := by
  have : ∀ n : Fin 33, 0 < n.val → shl .u32 4294967295 n.val = 4294967296 - 2 ^ n.val := by decide +kernel
  rcases Nat.eq_zero_or_pos n with rfl | h
  · decide +kernel
  · exact this ⟨n, by omega⟩ h
theorem ofN (x : Nat) : BitVec.ofInt 32 (x : Int) = BitVec.ofNat 32 x := by simp
theorem andNot_mask (a : Int) (n : Nat) (h0 : 0 ≤ a) (h1 : a < 4294967296) (hn : n ≤ 32) : bits .andNot .u32 a (4294967296 - 2 ^ n) = a % 2 ^ n := by
  obtain ⟨x, rfl⟩ := Int.eq_ofNat_of_zero_le h0
  show IntKind.u32.wrap ((BitVec.ofInt 32 (x : Int) &&& ~~~ BitVec.ofInt 32 (4294967296 - 2 ^ n)).toNat : Int) = _
  rw [mask_not n hn, IntKind.wrap_u32, ofN, BitVec.toNat_and, BitVec.toNat_ofNat, BitVec.toNat_ofNat]
  have hx : x % 2 ^ 32 = x := Nat.mod_eq_of_lt (by omega)
  have hp : 2 ^ n ≤ 2 ^ 32 := Nat.pow_le_pow_right (by decide) hn
  have hpos : 0 < 2 ^ n := Nat.two_pow_pos n
  have hq : (2 ^ n - 1) % 2 ^ 32 = 2 ^ n - 1 := Nat.mod_eq_of_lt (by omega)
  rw [hx, hq, Nat.and_two_pow_sub_one_eq_mod]
  have : x % 2 ^ n < 2 ^ n := Nat.mod_lt _ hpos
  have hz : (((x % 2 ^ n : Nat) : Int)) = (x : Int) % 2 ^ n := by simp
  rw [← hz]
  omega
theorem and_split (x m : BitVec 32) : (x &&& m).toNat + (x &&& ~~~m).toNat = x.toNat := by
  have h0 : (x &&& m) &&& (x &&& ~~~m) = 0#32 := by ext i; simp; cases x[i] <;> simp
  have h1 : (x &&& m) ||| (x &&& ~~~m) = x := by ext i; simp; cases x[i] <;> cases m[i] <;> simp
  have h2 := BitVec.add_eq_or_of_and_eq_zero _ _ h0
  rw [h1] at h2
  have h3 := BitVec.toNat_add_of_and_eq_zero h0
  rw [← h3, h2]
theorem and_mask (a : Int) (n : Nat) (h0 : 0 ≤ a) (h1 : a < 4294967296) (hn : n ≤ 32) : bits .and .u32 a (4294967296 - 2 ^ n) = a - a % 2 ^ n := by
  have e := andNot_mask a n h0 h1 hn
  obtain ⟨x, rfl⟩ := Int.eq_ofNat_of_zero_le h0
  have e' : IntKind.u32.wrap ((BitVec.ofInt 32 (x : Int) &&& ~~~ BitVec.ofInt 32 (4294967296 - 2 ^ n)).toNat : Int) = (x : Int) % 2 ^ n := e
  show IntKind.u32.wrap ((BitVec.ofInt 32 (x : Int) &&& BitVec.ofInt 32 (4294967296 - 2 ^ n)).toNat : Int) = _
  have s := and_split (BitVec.ofInt 32 (x : Int)) (BitVec.ofInt 32 (4294967296 - 2 ^ n))
  rw [ofN] at *
  generalize BitVec.ofInt 32 (4294967296 - 2 ^ n) = m at *
  rw [IntKind.wrap_u32] at *
  have hx : (BitVec.ofNat 32 x).toNat = x := by rw [BitVec.toNat_ofNat]; omega
  rw [hx] at s
  omega

theorem or_join (x y : Int) (n : Nat) (hn : n ≤ 32) (hx₀ : 0 ≤ x) (hx : x % 2 ^ n = 0) (hx₁ : x < 4294967296) (hy₀ : 0 ≤ y) (hy : y < 2 ^ n) : bits .or .u32 x y = x + y := by
  have hp : (2 : Int) ^ n ≤ 2 ^ 32 := by
    have := Nat.pow_le_pow_right (n := 2) (by decide) hn
    have h2 : (((2 : Nat) ^ n : Nat) : Int) ≤ (((2 : Nat) ^ 32 : Nat) : Int) := by exact_mod_cast this
    simpa using h2
  exact bits_join .u32 32 (by decide) (fun n h0 h1 => by rw [IntKind.wrap_u32]; omega) n x y hx₀ hx (by omega) hy₀ hy (by omega)
end Go.Proofs.Ytckffheolnmcnaa

end
section
namespace Go.Proofs.Ytckffheolnmcnaa.P
open Go.RowKit Go.Proofs.YtckffheolnmcnaaW.PrintWords Go.Proofs.YtckffheolnmcnaaW.PrintLast Go.Proofs.YtckffheolnmcnaaW.PrintMore
attribute [local go_sem] max2_int min2_int max_two min_two max_three min_three max_four min_four   -- for this text's walks alone
set_option linter.unusedVariables false
set_option linter.unusedSimpArgs false

def cmp_Or_int.l0 : Nat → Int → List Int → Int → Int → Option (Int)
  | 0, _, _, _, _ => none
  | k + 1, x3, x6, x7, x8 => if x8 < x7 then (if 0 ≤ x8 then (if x8 < (x6.length : Int) then (if (rd x6 x8) = x3 then (cmp_Or_int.l0 k x3 x6 x7 (wrap64 (x8 + 1))) else (some (rd x6 x8))) else (none)) else (none)) else (some x3)
def cmp_Or_int.f (k : Nat) (l0 : List Int) : Option (Int) := cmp_Or_int.l0 k 0 l0 (l0.length : Int) 0
set_option maxHeartbeats 8000000 in
set_option maxRecDepth 100000 in
theorem cmp_Or_int.calls (k : Nat) (A0 : Option Addr) (c0 : Nat) (l0 : List Int) (r : Int) (w : World) (hr0 : Kd.C (Kd.int .i64) w A0 l0.length l0) (hc0 : l0.length ≤ c0) (h : cmp_Or_int.f k l0 = some r) :
    Calls Try.prog 43 #[.slice A0 l0.length c0] w fun e w' => e = .returned (.int .i64 r) ∧ Drawn0 w w' := by
  have HR0 := Aside0.mk hr0
  have HC0 := Aside0.mk hc0
  clear hr0 hc0
  have H : (cmp_Or_int.l0 k 0 l0 (l0.length : Int) 0) = some r := h
  clear h
  have H' := Aside0.mk H
  clear H
  go_enter Try.func43, Try.ntmps43
  go_wp2
  go_loopg [8] k (fun kq v8 w' => ∃ (x8_1 : Int), v8 = .int .i64 x8_1 ∧ Aside0 (cmp_Or_int.l0 kq 0 l0 (l0.length : Int) x8_1 = some r) ∧ Aside0 (kq ≤ k) ∧ Drawn0 w w')
  case atStart => exact ⟨(0), (by first | rfl | (simp; done) | (simp [*]; done)), H', ⟨Nat.le_refl _⟩, by repeat (first | exact Drawn0.refl _ | apply Drawn0.step)⟩
  case round =>
    clear H'
    obtain ⟨x8_1, rfl, HA, HK1, ⟨m1, rfl⟩⟩ := hrel
    cases gk with
    | zero => exact absurd HA.out (by simp [cmp_Or_int.l0])
    | succ k1 =>
      have H := HA.out
      clear HA
      simp only [cmp_Or_int.l0] at H
      by_cases c2 : x8_1 < (l0.length : Int)
      · rw [if_pos c2] at H
        have c2b0 : decide (x8_1 < (l0.length : Int)) = true := decide_eq_true c2
        clear c2
        by_cases c3 : 0 ≤ x8_1
        · rw [if_pos c3] at H
          have c3b0 : decide (0 ≤ x8_1) = true := decide_eq_true c3
          clear c3
          by_cases c4 : x8_1 < (l0.length : Int)
          · rw [if_pos c4] at H
            have c4b0 : decide (x8_1 < (l0.length : Int)) = true := decide_eq_true c4
            clear c4
            by_cases c5 : (rd l0 x8_1) = 0
            · rw [if_pos c5] at H
              have c5b0 : ((rd l0 x8_1) == 0) = true := beq_iff_eq.mpr c5
              have c5b1 : ((rd l0 x8_1) != 0) = false := bne_eq_false_iff_eq.mpr c5
              clear c5
              have H' := Aside0.mk H
              clear H
              have p125 : 0 ≤ (x8_1 : Int) := of_decide_eq_true (by first | (with_reducible assumption) | assumption)
              have q125 : x8_1 < (l0.length : Int) := of_decide_eq_true (by first | (with_reducible assumption) | assumption)
              obtain ⟨ad125, e125, hx125_0⟩ := Kd.at_int HR0.out x8_1 p125 q125
              cases e125
              replace p125 := eq_true p125
              replace q125 := eq_true q125
              go_wp2
              go_roundg k1
              case measure => have := HK1.out; omega
              case rel => exact ⟨(wrap64 (x8_1 + 1)), (by first | rfl | (simp; done) | (simp [*]; done)), H', ⟨by have := HK1.out; omega⟩, by repeat (first | exact Drawn0.refl _ | apply Drawn0.step)⟩
            · rw [if_neg c5] at H
              have c5b0 : ((rd l0 x8_1) == 0) = false := beq_eq_false_iff_ne.mpr c5
              have c5b1 : ((rd l0 x8_1) != 0) = true := bne_iff_ne.mpr c5
              obtain rfl := Option.some.inj H
              have p125 : 0 ≤ (x8_1 : Int) := of_decide_eq_true (by first | (with_reducible assumption) | assumption)
              have q125 : x8_1 < (l0.length : Int) := of_decide_eq_true (by first | (with_reducible assumption) | assumption)
              obtain ⟨ad125, e125, hx125_0⟩ := Kd.at_int HR0.out x8_1 p125 q125
              cases e125
              replace p125 := eq_true p125
              replace q125 := eq_true q125
              go_wp2
              go_ret
              exact ⟨by first | rfl | (simp; done) | (simp [*]; done), by repeat (first | exact Drawn0.refl _ | apply Drawn0.step)⟩
          · rw [if_neg c4] at H
            exact absurd H (by simp)
        · rw [if_neg c3] at H
          exact absurd H (by simp)
      · rw [if_neg c2] at H
        have c2b0 : decide (x8_1 < (l0.length : Int)) = false := decide_eq_false c2
        clear c2
        obtain rfl := Option.some.inj H
        go_wp2
        go_ret
        exact ⟨by first | rfl | (simp; done) | (simp [*]; done), by repeat (first | exact Drawn0.refl _ | apply Drawn0.step)⟩

def cmp_isNaN_uint32.f (a0 : Int) : Option (Bool) := some (a0 != a0)
set_option maxHeartbeats 8000000 in
set_option maxRecDepth 100000 in
theorem cmp_isNaN_uint32.calls (a0 : Int) (r : Bool) (w : World) (h : cmp_isNaN_uint32.f a0 = some r) :
    Calls Try.prog 53 #[.int .u32 a0] w fun e w' => e = .returned (.bool r) ∧ Drawn0 w w' := by
  have H : (some (a0 != a0)) = some r := h
  clear h
  obtain rfl := Option.some.inj H
  go_enter Try.func53, Try.ntmps53
  go_wp2
  go_ret
  exact ⟨by first | rfl | (simp; done) | (simp [*]; done), by repeat (first | exact Drawn0.refl _ | apply Drawn0.step)⟩

def cmp_Compare_uint32.f (a0 : Int) (a1 : Int) : Option (Int) := (cmp_isNaN_uint32.f a0).bind fun t126 => ((cmp_isNaN_uint32.f a1).bind fun t127 => (if t126 = true then (if t127 = true then (some 0) else (some (-1))) else (if t127 = true then (some 1) else (if a0 < a1 then (some (-1)) else (if a0 > a1 then (some 1) else (some 0))))))
set_option maxHeartbeats 8000000 in
set_option maxRecDepth 100000 in
theorem cmp_Compare_uint32.calls (a0 : Int) (a1 : Int) (r : Int) (w : World) (h : cmp_Compare_uint32.f a0 a1 = some r) :
    Calls Try.prog 44 #[.int .u32 a0, .int .u32 a1] w fun e w' => e = .returned (.int .i64 r) ∧ Drawn0 w w' := by
  have H : ((cmp_isNaN_uint32.f a0).bind fun t126 => ((cmp_isNaN_uint32.f a1).bind fun t127 => (if t126 = true then (if t127 = true then (some 0) else (some (-1))) else (if t127 = true then (some 1) else (if a0 < a1 then (some (-1)) else (if a0 > a1 then (some 1) else (some 0))))))) = some r := h
  clear h
  replace H := Option.bind_eq_some_iff.mp H
  obtain ⟨t126, A30, H⟩ := H
  replace H : ((cmp_isNaN_uint32.f a1).bind fun t127 => (if t126 = true then (if t127 = true then (some 0) else (some (-1))) else (if t127 = true then (some 1) else (if a0 < a1 then (some (-1)) else (if a0 > a1 then (some 1) else (some 0)))))) = some r := H
  have A3 := Aside0.mk A30
  clear A30
  replace H := Option.bind_eq_some_iff.mp H
  obtain ⟨t127, A40, H⟩ := H
  replace H : (if t126 = true then (if t127 = true then (some 0) else (some (-1))) else (if t127 = true then (some 1) else (if a0 < a1 then (some (-1)) else (if a0 > a1 then (some 1) else (some 0))))) = some r := H
  have A4 := Aside0.mk A40
  clear A40
  by_cases c5 : t126 = true
  · subst c5
    have H1 : (if t127 = true then (some 0) else (some (-1))) = some r := by rw [if_pos rfl] at H; exact H
    clear H
    have H := H1
    clear H1
    by_cases c6 : t127 = true
    · subst c6
      have H1 : (some 0) = some r := by rw [if_pos rfl] at H; exact H
      clear H
      have H := H1
      clear H1
      obtain rfl := Option.some.inj H
      go_enter Try.func44, Try.ntmps44
      go_wp2_with (first | ((with_reducible refine gate_callee (f := 53) rfl ?_); refine goesL_ (some 8) rfl rfl Try.func53 (by kernel_rfl) rfl #[.int .u32 a0] rfl (by (try simp only [List.map_toArray, List.map_cons, List.map_nil]); first | done | rfl | (simp only [List.length_drop, List.length_take]; rfl)) ?_; (with_reducible refine (cmp_isNaN_uint32.calls a0 true _ A3.out).mono ?_); rintro e w' ⟨rfl, ⟨nd, rfl⟩⟩; refine ⟨_, rfl, ?_⟩) | ((with_reducible refine gate_callee (f := 53) rfl ?_); refine goesL_ (some 10) rfl rfl Try.func53 (by kernel_rfl) rfl #[.int .u32 a1] rfl (by (try simp only [List.map_toArray, List.map_cons, List.map_nil]); first | done | rfl | (simp only [List.length_drop, List.length_take]; rfl)) ?_; (with_reducible refine (cmp_isNaN_uint32.calls a1 true _ A4.out).mono ?_); rintro e w' ⟨rfl, ⟨nd, rfl⟩⟩; refine ⟨_, rfl, ?_⟩))
      go_ret
      exact ⟨by first | rfl | (simp; done) | (simp [*]; done), by repeat (first | exact Drawn0.refl _ | apply Drawn0.step)⟩
    · replace c6 := Bool.eq_false_iff.mpr c6
      subst c6
      have H1 : (some (-1)) = some r := by rw [if_neg (show ¬ (false = true) by decide)] at H; exact H
      clear H
      have H := H1
      clear H1
      obtain rfl := Option.some.inj H
      go_enter Try.func44, Try.ntmps44
      go_wp2_with (first | ((with_reducible refine gate_callee (f := 53) rfl ?_); refine goesL_ (some 8) rfl rfl Try.func53 (by kernel_rfl) rfl #[.int .u32 a0] rfl (by (try simp only [List.map_toArray, List.map_cons, List.map_nil]); first | done | rfl | (simp only [List.length_drop, List.length_take]; rfl)) ?_; (with_reducible refine (cmp_isNaN_uint32.calls a0 true _ A3.out).mono ?_); rintro e w' ⟨rfl, ⟨nd, rfl⟩⟩; refine ⟨_, rfl, ?_⟩) | ((with_reducible refine gate_callee (f := 53) rfl ?_); refine goesL_ (some 10) rfl rfl Try.func53 (by kernel_rfl) rfl #[.int .u32 a1] rfl (by (try simp only [List.map_toArray, List.map_cons, List.map_nil]); first | done | rfl | (simp only [List.length_drop, List.length_take]; rfl)) ?_; (with_reducible refine (cmp_isNaN_uint32.calls a1 false _ A4.out).mono ?_); rintro e w' ⟨rfl, ⟨nd, rfl⟩⟩; refine ⟨_, rfl, ?_⟩))
      go_ret
      exact ⟨by first | rfl | (simp; done) | (simp [*]; done), by repeat (first | exact Drawn0.refl _ | apply Drawn0.step)⟩
  · replace c5 := Bool.eq_false_iff.mpr c5
    subst c5
    have H1 : (if t127 = true then (some 1) else (if a0 < a1 then (some (-1)) else (if a0 > a1 then (some 1) else (some 0)))) = some r := by rw [if_neg (show ¬ (false = true) by decide)] at H; exact H
    clear H
    have H := H1
    clear H1
    by_cases c7 : t127 = true
    · subst c7
      have H1 : (some 1) = some r := by rw [if_pos rfl] at H; exact H
      clear H
      have H := H1
      clear H1
      obtain rfl := Option.some.inj H
      go_enter Try.func44, Try.ntmps44
      go_wp2_with (first | ((with_reducible refine gate_callee (f := 53) rfl ?_); refine goesL_ (some 8) rfl rfl Try.func53 (by kernel_rfl) rfl #[.int .u32 a0] rfl (by (try simp only [List.map_toArray, List.map_cons, List.map_nil]); first | done | rfl | (simp only [List.length_drop, List.length_take]; rfl)) ?_; (with_reducible refine (cmp_isNaN_uint32.calls a0 false _ A3.out).mono ?_); rintro e w' ⟨rfl, ⟨nd, rfl⟩⟩; refine ⟨_, rfl, ?_⟩) | ((with_reducible refine gate_callee (f := 53) rfl ?_); refine goesL_ (some 10) rfl rfl Try.func53 (by kernel_rfl) rfl #[.int .u32 a1] rfl (by (try simp only [List.map_toArray, List.map_cons, List.map_nil]); first | done | rfl | (simp only [List.length_drop, List.length_take]; rfl)) ?_; (with_reducible refine (cmp_isNaN_uint32.calls a1 true _ A4.out).mono ?_); rintro e w' ⟨rfl, ⟨nd, rfl⟩⟩; refine ⟨_, rfl, ?_⟩))
      go_ret
      exact ⟨by first | rfl | (simp; done) | (simp [*]; done), by repeat (first | exact Drawn0.refl _ | apply Drawn0.step)⟩
    · replace c7 := Bool.eq_false_iff.mpr c7
      subst c7
      have H1 : (if a0 < a1 then (some (-1)) else (if a0 > a1 then (some 1) else (some 0))) = some r := by rw [if_neg (show ¬ (false = true) by decide)] at H; exact H
      clear H
      have H := H1
      clear H1
      by_cases c8 : a0 < a1
      · rw [if_pos c8] at H
        have c8b0 : decide (a0 < a1) = true := decide_eq_true c8
        clear c8
        obtain rfl := Option.some.inj H
        go_enter Try.func44, Try.ntmps44
        go_wp2_with (first | ((with_reducible refine gate_callee (f := 53) rfl ?_); refine goesL_ (some 8) rfl rfl Try.func53 (by kernel_rfl) rfl #[.int .u32 a0] rfl (by (try simp only [List.map_toArray, List.map_cons, List.map_nil]); first | done | rfl | (simp only [List.length_drop, List.length_take]; rfl)) ?_; (with_reducible refine (cmp_isNaN_uint32.calls a0 false _ A3.out).mono ?_); rintro e w' ⟨rfl, ⟨nd, rfl⟩⟩; refine ⟨_, rfl, ?_⟩) | ((with_reducible refine gate_callee (f := 53) rfl ?_); refine goesL_ (some 10) rfl rfl Try.func53 (by kernel_rfl) rfl #[.int .u32 a1] rfl (by (try simp only [List.map_toArray, List.map_cons, List.map_nil]); first | done | rfl | (simp only [List.length_drop, List.length_take]; rfl)) ?_; (with_reducible refine (cmp_isNaN_uint32.calls a1 false _ A4.out).mono ?_); rintro e w' ⟨rfl, ⟨nd, rfl⟩⟩; refine ⟨_, rfl, ?_⟩))
        go_ret
        exact ⟨by first | rfl | (simp; done) | (simp [*]; done), by repeat (first | exact Drawn0.refl _ | apply Drawn0.step)⟩
      · rw [if_neg c8] at H
        have c8b0 : decide (a0 < a1) = false := decide_eq_false c8
        clear c8
        by_cases c9 : a0 > a1
        · rw [if_pos c9] at H
          have c9b0 : decide (a1 < a0) = true := decide_eq_true c9
          clear c9
          obtain rfl := Option.some.inj H
          go_enter Try.func44, Try.ntmps44
          go_wp2_with (first | ((with_reducible refine gate_callee (f := 53) rfl ?_); refine goesL_ (some 8) rfl rfl Try.func53 (by kernel_rfl) rfl #[.int .u32 a0] rfl (by (try simp only [List.map_toArray, List.map_cons, List.map_nil]); first | done | rfl | (simp only [List.length_drop, List.length_take]; rfl)) ?_; (with_reducible refine (cmp_isNaN_uint32.calls a0 false _ A3.out).mono ?_); rintro e w' ⟨rfl, ⟨nd, rfl⟩⟩; refine ⟨_, rfl, ?_⟩) | ((with_reducible refine gate_callee (f := 53) rfl ?_); refine goesL_ (some 10) rfl rfl Try.func53 (by kernel_rfl) rfl #[.int .u32 a1] rfl (by (try simp only [List.map_toArray, List.map_cons, List.map_nil]); first | done | rfl | (simp only [List.length_drop, List.length_take]; rfl)) ?_; (with_reducible refine (cmp_isNaN_uint32.calls a1 false _ A4.out).mono ?_); rintro e w' ⟨rfl, ⟨nd, rfl⟩⟩; refine ⟨_, rfl, ?_⟩))
          go_ret
          exact ⟨by first | rfl | (simp; done) | (simp [*]; done), by repeat (first | exact Drawn0.refl _ | apply Drawn0.step)⟩
        · rw [if_neg c9] at H
          have c9b0 : decide (a1 < a0) = false := decide_eq_false c9
          clear c9
          obtain rfl := Option.some.inj H
          go_enter Try.func44, Try.ntmps44
          go_wp2_with (first | ((with_reducible refine gate_callee (f := 53) rfl ?_); refine goesL_ (some 8) rfl rfl Try.func53 (by kernel_rfl) rfl #[.int .u32 a0] rfl (by (try simp only [List.map_toArray, List.map_cons, List.map_nil]); first | done | rfl | (simp only [List.length_drop, List.length_take]; rfl)) ?_; (with_reducible refine (cmp_isNaN_uint32.calls a0 false _ A3.out).mono ?_); rintro e w' ⟨rfl, ⟨nd, rfl⟩⟩; refine ⟨_, rfl, ?_⟩) | ((with_reducible refine gate_callee (f := 53) rfl ?_); refine goesL_ (some 10) rfl rfl Try.func53 (by kernel_rfl) rfl #[.int .u32 a1] rfl (by (try simp only [List.map_toArray, List.map_cons, List.map_nil]); first | done | rfl | (simp only [List.length_drop, List.length_take]; rfl)) ?_; (with_reducible refine (cmp_isNaN_uint32.calls a1 false _ A4.out).mono ?_); rintro e w' ⟨rfl, ⟨nd, rfl⟩⟩; refine ⟨_, rfl, ?_⟩))
          go_ret
          exact ⟨by first | rfl | (simp; done) | (simp [*]; done), by repeat (first | exact Drawn0.refl _ | apply Drawn0.step)⟩

def cmp_isNaN_int.f (a0 : Int) : Option (Bool) := some (a0 != a0)
set_option maxHeartbeats 8000000 in
set_option maxRecDepth 100000 in
theorem cmp_isNaN_int.calls (a0 : Int) (r : Bool) (w : World) (h : cmp_isNaN_int.f a0 = some r) :
    Calls Try.prog 54 #[.int .i64 a0] w fun e w' => e = .returned (.bool r) ∧ Drawn0 w w' := by
  have H : (some (a0 != a0)) = some r := h
  clear h
  obtain rfl := Option.some.inj H
  go_enter Try.func54, Try.ntmps54
  go_wp2
  go_ret
  exact ⟨by first | rfl | (simp; done) | (simp [*]; done), by repeat (first | exact Drawn0.refl _ | apply Drawn0.step)⟩

def cmp_Compare_int.f (a0 : Int) (a1 : Int) : Option (Int) := (cmp_isNaN_int.f a0).bind fun t128 => ((cmp_isNaN_int.f a1).bind fun t129 => (if t128 = true then (if t129 = true then (some 0) else (some (-1))) else (if t129 = true then (some 1) else (if a0 < a1 then (some (-1)) else (if a0 > a1 then (some 1) else (some 0))))))
set_option maxHeartbeats 8000000 in
set_option maxRecDepth 100000 in
theorem cmp_Compare_int.calls (a0 : Int) (a1 : Int) (r : Int) (w : World) (h : cmp_Compare_int.f a0 a1 = some r) :
    Calls Try.prog 45 #[.int .i64 a0, .int .i64 a1] w fun e w' => e = .returned (.int .i64 r) ∧ Drawn0 w w' := by
  have H : ((cmp_isNaN_int.f a0).bind fun t128 => ((cmp_isNaN_int.f a1).bind fun t129 => (if t128 = true then (if t129 = true then (some 0) else (some (-1))) else (if t129 = true then (some 1) else (if a0 < a1 then (some (-1)) else (if a0 > a1 then (some 1) else (some 0))))))) = some r := h
  clear h
  replace H := Option.bind_eq_some_iff.mp H
  obtain ⟨t128, A30, H⟩ := H
  replace H : ((cmp_isNaN_int.f a1).bind fun t129 => (if t128 = true then (if t129 = true then (some 0) else (some (-1))) else (if t129 = true then (some 1) else (if a0 < a1 then (some (-1)) else (if a0 > a1 then (some 1) else (some 0)))))) = some r := H
  have A3 := Aside0.mk A30
  clear A30
  replace H := Option.bind_eq_some_iff.mp H
  obtain ⟨t129, A40, H⟩ := H
  replace H : (if t128 = true then (if t129 = true then (some 0) else (some (-1))) else (if t129 = true then (some 1) else (if a0 < a1 then (some (-1)) else (if a0 > a1 then (some 1) else (some 0))))) = some r := H
  have A4 := Aside0.mk A40
  clear A40
  by_cases c5 : t128 = true
  · subst c5
    have H1 : (if t129 = true then (some 0) else (some (-1))) = some r := by rw [if_pos rfl] at H; exact H
    clear H
    have H := H1
    clear H1
    by_cases c6 : t129 = true
    · subst c6
      have H1 : (some 0) = some r := by rw [if_pos rfl] at H; exact H
      clear H
      have H := H1
      clear H1
      obtain rfl := Option.some.inj H
      go_enter Try.func45, Try.ntmps45
      go_wp2_with (first | ((with_reducible refine gate_callee (f := 54) rfl ?_); refine goesL_ (some 8) rfl rfl Try.func54 (by kernel_rfl) rfl #[.int .i64 a0] rfl (by (try simp only [List.map_toArray, List.map_cons, List.map_nil]); first | done | rfl | (simp only [List.length_drop, List.length_take]; rfl)) ?_; (with_reducible refine (cmp_isNaN_int.calls a0 true _ A3.out).mono ?_); rintro e w' ⟨rfl, ⟨nd, rfl⟩⟩; refine ⟨_, rfl, ?_⟩) | ((with_reducible refine gate_callee (f := 54) rfl ?_); refine goesL_ (some 10) rfl rfl Try.func54 (by kernel_rfl) rfl #[.int .i64 a1] rfl (by (try simp only [List.map_toArray, List.map_cons, List.map_nil]); first | done | rfl | (simp only [List.length_drop, List.length_take]; rfl)) ?_; (with_reducible refine (cmp_isNaN_int.calls a1 true _ A4.out).mono ?_); rintro e w' ⟨rfl, ⟨nd, rfl⟩⟩; refine ⟨_, rfl, ?_⟩))
      go_ret
      exact ⟨by first | rfl | (simp; done) | (simp [*]; done), by repeat (first | exact Drawn0.refl _ | apply Drawn0.step)⟩
    · replace c6 := Bool.eq_false_iff.mpr c6
      subst c6
      have H1 : (some (-1)) = some r := by rw [if_neg (show ¬ (false = true) by decide)] at H; exact H
      clear H
      have H := H1
      clear H1
      obtain rfl := Option.some.inj H
      go_enter Try.func45, Try.ntmps45
      go_wp2_with (first | ((with_reducible refine gate_callee (f := 54) rfl ?_); refine goesL_ (some 8) rfl rfl Try.func54 (by kernel_rfl) rfl #[.int .i64 a0] rfl (by (try simp only [List.map_toArray, List.map_cons, List.map_nil]); first | done | rfl | (simp only [List.length_drop, List.length_take]; rfl)) ?_; (with_reducible refine (cmp_isNaN_int.calls a0 true _ A3.out).mono ?_); rintro e w' ⟨rfl, ⟨nd, rfl⟩⟩; refine ⟨_, rfl, ?_⟩) | ((with_reducible refine gate_callee (f := 54) rfl ?_); refine goesL_ (some 10) rfl rfl Try.func54 (by kernel_rfl) rfl #[.int .i64 a1] rfl (by (try simp only [List.map_toArray, List.map_cons, List.map_nil]); first | done | rfl | (simp only [List.length_drop, List.length_take]; rfl)) ?_; (with_reducible refine (cmp_isNaN_int.calls a1 false _ A4.out).mono ?_); rintro e w' ⟨rfl, ⟨nd, rfl⟩⟩; refine ⟨_, rfl, ?_⟩))
      go_ret
      exact ⟨by first | rfl | (simp; done) | (simp [*]; done), by repeat (first | exact Drawn0.refl _ | apply Drawn0.step)⟩
  · replace c5 := Bool.eq_false_iff.mpr c5
    subst c5
    have H1 : (if t129 = true then (some 1) else (if a0 < a1 then (some (-1)) else (if a0 > a1 then (some 1) else (some 0)))) = some r := by rw [if_neg (show ¬ (false = true) by decide)] at H; exact H
    clear H
    have H := H1
    clear H1
    by_cases c7 : t129 = true
    · subst c7
      have H1 : (some 1) = some r := by rw [if_pos rfl] at H; exact H
      clear H
      have H := H1
      clear H1
      obtain rfl := Option.some.inj H
      go_enter Try.func45, Try.ntmps45
      go_wp2_with (first | ((with_reducible refine gate_callee (f := 54) rfl ?_); refine goesL_ (some 8) rfl rfl Try.func54 (by kernel_rfl) rfl #[.int .i64 a0] rfl (by (try simp only [List.map_toArray, List.map_cons, List.map_nil]); first | done | rfl | (simp only [List.length_drop, List.length_take]; rfl)) ?_; (with_reducible refine (cmp_isNaN_int.calls a0 false _ A3.out).mono ?_); rintro e w' ⟨rfl, ⟨nd, rfl⟩⟩; refine ⟨_, rfl, ?_⟩) | ((with_reducible refine gate_callee (f := 54) rfl ?_); refine goesL_ (some 10) rfl rfl Try.func54 (by kernel_rfl) rfl #[.int .i64 a1] rfl (by (try simp only [List.map_toArray, List.map_cons, List.map_nil]); first | done | rfl | (simp only [List.length_drop, List.length_take]; rfl)) ?_; (with_reducible refine (cmp_isNaN_int.calls a1 true _ A4.out).mono ?_); rintro e w' ⟨rfl, ⟨nd, rfl⟩⟩; refine ⟨_, rfl, ?_⟩))
      go_ret
      exact ⟨by first | rfl | (simp; done) | (simp [*]; done), by repeat (first | exact Drawn0.refl _ | apply Drawn0.step)⟩
    · replace c7 := Bool.eq_false_iff.mpr c7
      subst c7
      have H1 : (if a0 < a1 then (some (-1)) else (if a0 > a1 then (some 1) else (some 0))) = some r := by rw [if_neg (show ¬ (false = true) by decide)] at H; exact H
      clear H
      have H := H1
      clear H1
      by_cases c8 : a0 < a1
      · rw [if_pos c8] at H
        have c8b0 : decide (a0 < a1) = true := decide_eq_true c8
        clear c8
        obtain rfl := Option.some.inj H
        go_enter Try.func45, Try.ntmps45
        go_wp2_with (first | ((with_reducible refine gate_callee (f := 54) rfl ?_); refine goesL_ (some 8) rfl rfl Try.func54 (by kernel_rfl) rfl #[.int .i64 a0] rfl (by (try simp only [List.map_toArray, List.map_cons, List.map_nil]); first | done | rfl | (simp only [List.length_drop, List.length_take]; rfl)) ?_; (with_reducible refine (cmp_isNaN_int.calls a0 false _ A3.out).mono ?_); rintro e w' ⟨rfl, ⟨nd, rfl⟩⟩; refine ⟨_, rfl, ?_⟩) | ((with_reducible refine gate_callee (f := 54) rfl ?_); refine goesL_ (some 10) rfl rfl Try.func54 (by kernel_rfl) rfl #[.int .i64 a1] rfl (by (try simp only [List.map_toArray, List.map_cons, List.map_nil]); first | done | rfl | (simp only [List.length_drop, List.length_take]; rfl)) ?_; (with_reducible refine (cmp_isNaN_int.calls a1 false _ A4.out).mono ?_); rintro e w' ⟨rfl, ⟨nd, rfl⟩⟩; refine ⟨_, rfl, ?_⟩))
        go_ret
        exact ⟨by first | rfl | (simp; done) | (simp [*]; done), by repeat (first | exact Drawn0.refl _ | apply Drawn0.step)⟩
      · rw [if_neg c8] at H
        have c8b0 : decide (a0 < a1) = false := decide_eq_false c8
        clear c8
        by_cases c9 : a0 > a1
        · rw [if_pos c9] at H
          have c9b0 : decide (a1 < a0) = true := decide_eq_true c9
          clear c9
          obtain rfl := Option.some.inj H
          go_enter Try.func45, Try.ntmps45
          go_wp2_with (first | ((with_reducible refine gate_callee (f := 54) rfl ?_); refine goesL_ (some 8) rfl rfl Try.func54 (by kernel_rfl) rfl #[.int .i64 a0] rfl (by (try simp only [List.map_toArray, List.map_cons, List.map_nil]); first | done | rfl | (simp only [List.length_drop, List.length_take]; rfl)) ?_; (with_reducible refine (cmp_isNaN_int.calls a0 false _ A3.out).mono ?_); rintro e w' ⟨rfl, ⟨nd, rfl⟩⟩; refine ⟨_, rfl, ?_⟩) | ((with_reducible refine gate_callee (f := 54) rfl ?_); refine goesL_ (some 10) rfl rfl Try.func54 (by kernel_rfl) rfl #[.int .i64 a1] rfl (by (try simp only [List.map_toArray, List.map_cons, List.map_nil]); first | done | rfl | (simp only [List.length_drop, List.length_take]; rfl)) ?_; (with_reducible refine (cmp_isNaN_int.calls a1 false _ A4.out).mono ?_); rintro e w' ⟨rfl, ⟨nd, rfl⟩⟩; refine ⟨_, rfl, ?_⟩))
          go_ret
          exact ⟨by first | rfl | (simp; done) | (simp [*]; done), by repeat (first | exact Drawn0.refl _ | apply Drawn0.step)⟩
        · rw [if_neg c9] at H
          have c9b0 : decide (a1 < a0) = false := decide_eq_false c9
          clear c9
          obtain rfl := Option.some.inj H
          go_enter Try.func45, Try.ntmps45
          go_wp2_with (first | ((with_reducible refine gate_callee (f := 54) rfl ?_); refine goesL_ (some 8) rfl rfl Try.func54 (by kernel_rfl) rfl #[.int .i64 a0] rfl (by (try simp only [List.map_toArray, List.map_cons, List.map_nil]); first | done | rfl | (simp only [List.length_drop, List.length_take]; rfl)) ?_; (with_reducible refine (cmp_isNaN_int.calls a0 false _ A3.out).mono ?_); rintro e w' ⟨rfl, ⟨nd, rfl⟩⟩; refine ⟨_, rfl, ?_⟩) | ((with_reducible refine gate_callee (f := 54) rfl ?_); refine goesL_ (some 10) rfl rfl Try.func54 (by kernel_rfl) rfl #[.int .i64 a1] rfl (by (try simp only [List.map_toArray, List.map_cons, List.map_nil]); first | done | rfl | (simp only [List.length_drop, List.length_take]; rfl)) ?_; (with_reducible refine (cmp_isNaN_int.calls a1 false _ A4.out).mono ?_); rintro e w' ⟨rfl, ⟨nd, rfl⟩⟩; refine ⟨_, rfl, ?_⟩))
          go_ret
          exact ⟨by first | rfl | (simp; done) | (simp [*]; done), by repeat (first | exact Drawn0.refl _ | apply Drawn0.step)⟩

end Go.Proofs.Ytckffheolnmcnaa.P

end
section
namespace Go.Proofs.Ytckffheolnmcnaa.P
open Go.RowKit Go.Proofs.YtckffheolnmcnaaW.PrintWords Go.Proofs.YtckffheolnmcnaaW.PrintLast Go.Proofs.YtckffheolnmcnaaW.PrintMore
set_option linter.unusedVariables false
set_option linter.unusedSimpArgs false

def cmpI (a b : Int) : Int := if a < b then -1 else if b < a then 1 else 0
def orI (a b : Int) : Int := if a ≠ 0 then a else b
def ordP (x y : S30) : Int := orI (cmpI x.f0 y.f0) (cmpI x.f1 y.f1)
theorem cmpI_is (a b : Int) : cmp_Compare_int.f a b = some (cmpI a b) := by
  unfold cmp_Compare_int.f cmpI
  by_cases h1 : a < b
  · simp [h1, cmp_isNaN_int.f]
  · by_cases h2 : b < a
    · simp [h1, h2, cmp_isNaN_int.f]
    · simp [h1, h2, cmp_isNaN_int.f]
theorem orI_is (a b : Int) : cmp_Or_int.f 4 [a, b] = some (orI a b) := by
  unfold orI
  by_cases h : a = 0
  · by_cases h2 : b = 0 <;> simp [cmp_Or_int.f, cmp_Or_int.l0, rd, h, h2, wrap64]
  · simp [cmp_Or_int.f, cmp_Or_int.l0, rd, h, wrap64]
theorem cmpU_is (a b : Int) : cmp_Compare_uint32.f a b = some (cmpI a b) := by
  unfold cmp_Compare_uint32.f cmpI
  by_cases h1 : a < b
  · simp [h1, cmp_isNaN_uint32.f]
  · by_cases h2 : b < a
    · simp [h1, h2, cmp_isNaN_uint32.f]
    · simp [h1, h2, cmp_isNaN_uint32.f]
/-- an order told by numbers -/
def Ord {α : Type} (c : α → α → Int) : Prop := (∀ a b, c b a = - c a b) ∧ (∀ a b d, c a b ≤ 0 → c b d ≤ 0 → c a d ≤ 0)
theorem Ord.self {α : Type} {c : α → α → Int} (h : Ord c) (a : α) : c a a = 0 := by have := h.1 a a; omega
theorem Ord.zero {α : Type} {c : α → α → Int} (h : Ord c) {a b d : α} (h1 : c a b ≤ 0) (h2 : c b d ≤ 0) (h3 : c a d = 0) : c a b = 0 ∧ c b d = 0 := by
  have e1 := h.1 a d
  have e2 := h.1 a b
  have e3 := h.1 b d
  have t1 := h.2 b d a h2 (by omega)
  have t2 := h.2 d a b (by omega) h1
  constructor <;> omega
theorem Ord.pull {α β : Type} {c : α → α → Int} (h : Ord c) (f : β → α) : Ord (fun a b => c (f a) (f b)) := ⟨fun a b => h.1 _ _, fun a b d => h.2 _ _ _⟩
theorem cmpI_ord : Ord cmpI := by
  refine ⟨fun a b => ?_, fun a b d => ?_⟩
  · unfold cmpI; split <;> split <;> omega
  · unfold cmpI; split <;> split <;> split <;> (try split) <;> (try split) <;> omega
theorem cmpI_zero {a b : Int} : cmpI a b = 0 ↔ a = b := by unfold cmpI; split <;> (try split) <;> omega
theorem orI_ord {α : Type} {c d : α → α → Int} (h : Ord c) (g : Ord d) : Ord (fun a b => orI (c a b) (d a b)) := by
  refine ⟨fun x y => ?_, fun x y z h1 h2 => ?_⟩
  · show orI _ _ = - orI _ _
    unfold orI
    rw [h.1 x y, g.1 x y]
    by_cases e : c x y = 0
    · rw [if_neg (by omega), if_neg (by omega)]
    · rw [if_pos (by omega), if_pos (by omega)]
  · have h1' : orI (c x y) (d x y) ≤ 0 := h1
    have h2' : orI (c y z) (d y z) ≤ 0 := h2
    show orI (c x z) (d x z) ≤ 0
    unfold orI at *
    have p1 : c x y ≤ 0 := by by_cases e : c x y = 0 <;> simp [e] at h1' ⊢ ; exact h1'
    have p2 : c y z ≤ 0 := by by_cases e : c y z = 0 <;> simp [e] at h2' ⊢ ; exact h2'
    have p3 := h.2 x y z p1 p2
    by_cases e : c x z = 0
    · obtain ⟨e1, e2⟩ := h.zero p1 p2 e
      rw [if_neg (by omega)] at h1' h2' ⊢
      exact g.2 x y z h1' h2'
    · rw [if_pos e]; exact p3
theorem orI_zero {a b : Int} : orI a b = 0 ↔ a = 0 ∧ b = 0 := by unfold orI; by_cases h : a = 0 <;> simp [h]
/-- draws, and new blocks behind -/
def Gr (w w' : World) : Prop := ∃ (q : Nat) (os : Array Obj), w' = Go.Sort.grow (w.drewN q) os
theorem Gr.refl (w : World) : Gr w w := ⟨0, #[], by simp [Go.Sort.grow, World.drewN]⟩
theorem Gr.drewN {w W : World} (h : Gr w W) (n : Nat) : Gr w (W.drewN n) := by
  obtain ⟨q, os, rfl⟩ := h
  exact ⟨q + n, os, by simp [Go.Sort.grow, World.drewN, Nat.add_assoc]⟩
theorem Gr.drew {w W : World} (h : Gr w W) : Gr w W.drew := Gr.drewN h 1
theorem Gr.alloc {w W : World} (h : Gr w W) (o : Obj) : Gr w (W.alloc o) := by
  obtain ⟨q, os, rfl⟩ := h
  exact ⟨q, os ++ #[o], by rw [Go.Sort.alloc_eq_grow, Go.Sort.grow_grow]⟩
theorem C_two (g : Nat) (x y : Int) (w : World) (c0 : w.cell? ⟨g, 0, none⟩ = some (.int .i64 x)) (c1 : w.cell? ⟨g, 1, none⟩ = some (.int .i64 y)) : Kd.C (Kd.int .i64) w (some ⟨g, 0, none⟩) [x, y].length [x, y] := by
  refine ⟨rfl, by simp [maxLen], fun _ => ⟨⟨g, 0, none⟩, rfl, ?_⟩⟩
  intro j z hz
  match j with
  | 0 => simp at hz; subst hz; exact ⟨[.int .i64 x], rfl, rfl, fun i u hu => by match i with | 0 => simp at hu; subst hu; exact c0 | i + 1 => simp at hu⟩
  | 1 => simp at hz; subst hz; exact ⟨[.int .i64 y], rfl, rfl, fun i u hu => by match i with | 0 => simp at hu; subst hu; exact c1 | i + 1 => simp at hu⟩
  | j + 2 => simp at hz
theorem or2_any (g : Nat) (x y : Int) (w : World) (c0 : w.cell? ⟨g, 0, none⟩ = some (.int .i64 x)) (c1 : w.cell? ⟨g, 1, none⟩ = some (.int .i64 y)) :
    Calls Try.prog 43 #[.slice (some ⟨g, 0, none⟩) 2 2] w fun e w' => e = .returned (.int .i64 (orI x y)) ∧ ∃ m, w' = w.drewN m :=
  (cmp_Or_int.calls 4 (some ⟨g, 0, none⟩) 2 [x, y] _ w (C_two g x y w c0 c1) (by simp) (orI_is x y)).mono fun e w' h => ⟨h.1, by obtain ⟨_, m, rfl⟩ := h; exact ⟨m, rfl⟩⟩
theorem cmp_any (a b : Int) (w : World) : Calls Try.prog 45 #[.int .i64 a, .int .i64 b] w fun e w' => e = .returned (.int .i64 (cmpI a b)) ∧ ∃ m, w' = w.drewN m :=
  (cmp_Compare_int.calls a b _ w (cmpI_is a b)).mono fun e w' h => ⟨h.1, by obtain ⟨_, m, rfl⟩ := h; exact ⟨m, rfl⟩⟩
theorem cmpU_any (a b : Int) (w : World) : Calls Try.prog 44 #[.int .u32 a, .int .u32 b] w fun e w' => e = .returned (.int .i64 (cmpI a b)) ∧ ∃ m, w' = w.drewN m :=
  (cmp_Compare_uint32.calls a b _ w (cmpU_is a b)).mono fun e w' h => ⟨h.1, by obtain ⟨_, m, rfl⟩ := h; exact ⟨m, rfl⟩⟩
set_option maxHeartbeats 1000000 in
set_option maxRecDepth 100000 in
theorem orderP_grow (x y : S30) (w : World) :
    Calls Try.prog 42 #[.agg #[.int .u32 x.f0, .int .i64 x.f1], .agg #[.int .u32 y.f0, .int .i64 y.f1]] w fun e w' => e = .returned (.int .i64 (ordP x y)) ∧ Gr w w' := by
  unfold ordP
  obtain ⟨a, n⟩ := x
  obtain ⟨b, m⟩ := y
  go_enter Try.func42, Try.ntmps42
  go_wp2_with fail
  obtain ⟨W, hW⟩ : ∃ W, W = (w.alloc (Obj.cells #[.int .u32 a, .int .i64 n] 30)).alloc (Obj.cells #[.int .u32 b, .int .i64 m] 30) := ⟨_, rfl⟩
  rw [← hW]
  have c0 : W.cell? ⟨w.heap.size, 0, none⟩ = some (.int .u32 a) := by rw [hW]; go_simp
  have c1 : W.cell? ⟨w.heap.size, 1, none⟩ = some (.int .i64 n) := by rw [hW]; go_simp
  have c2 : W.cell? ⟨w.heap.size + 1, 0, none⟩ = some (.int .u32 b) := by rw [hW]; go_simp
  have c3 : W.cell? ⟨w.heap.size + 1, 1, none⟩ = some (.int .i64 m) := by rw [hW]; go_simp
  have HG : Hid (Gr w W) := by
    unfold Hid; rw [hW]
    exact ((Gr.refl _).alloc _).alloc _
  have hsz : W.heap.size = w.heap.size + 2 := by rw [hW]; simp
  clear hW
  go_region_held3 (fun w' => w'.cell? ⟨w.heap.size, 0, none⟩ = some (.int .u32 a) ∧ w'.cell? ⟨w.heap.size, 1, none⟩ = some (.int .i64 n) ∧ w'.cell? ⟨w.heap.size + 1, 0, none⟩ = some (.int .u32 b) ∧ w'.cell? ⟨w.heap.size + 1, 1, none⟩ = some (.int .i64 m)) (go_keep)
    (first | (go_at_call 44; refine (cmpU_any _ _ _).mono ?_; rintro e w' ⟨rfl, ⟨nd, rfl⟩⟩) | (go_at_call 45; refine (cmp_any _ _ _).mono ?_; rintro e w' ⟨rfl, ⟨nd, rfl⟩⟩) | (go_at_call 43; refine (or2_any _ (cmpI a b) (cmpI n m) _ ?_ ?_).mono ?_; (go_simp); (go_simp); rintro e w' ⟨rfl, ⟨nd, rfl⟩⟩))
  all_goals
    go_wp2_with fail
    go_ret
    exact ⟨rfl, by repeat (first | exact HG.out | apply Gr.drewN | apply Gr.drew | apply Gr.alloc)⟩
end Go.Proofs.Ytckffheolnmcnaa.P

end
section
namespace Go.Proofs
open Go.Shelf
def Try.sortX_ren : Go.Shelf.Ren := ⟨fun | 6 => 51 | 15 => 59 | 14 => 58 | 28 => 70 | 29 => 71 | 20 => 62 | 21 => 63 | 22 => 64 | 23 => 65 | 24 => 66 | 25 => 67 | 26 => 68 | 27 => 69 | 46 => 72 | 47 => 73 | 48 => 74 | 49 => 75 | 50 => 76 | 57 => 77 | n => n, fun | 22 => 22 | 24 => 30 | 25 => 64 | 3 => 3 | 39 => 84 | 0 => 0 | 53 => 23 | 55 => 98 | 4 => 4 | 46 => 90 | 45 => 89 | 50 => 94 | 5 => 5 | 9 => 9 | 66 => 99 | 70 => 103 | 76 => 105 | 77 => 106 | n => n, fun | n => n⟩
theorem Try.sortX : Go.Proofs.SlLaysF0.n6 Try.prog Try.sortX_ren := {
  mixed := by kernel_rfl
  f6 := ⟨Try.f51.name, by decide, Try.func51.trans (congrArg some (by kernel_rfl))⟩
  f14 := ⟨Try.f58.name, by decide, Try.func58.trans (congrArg some (by kernel_rfl))⟩
  f15 := Try.func59.trans (congrArg some (by kernel_rfl))
  f20 := ⟨Try.f62.name, by decide, Try.func62.trans (congrArg some (by kernel_rfl))⟩
  f21 := ⟨Try.f63.name, by decide, Try.func63.trans (congrArg some (by kernel_rfl))⟩
  f22 := ⟨Try.f64.name, by decide, Try.func64.trans (congrArg some (by kernel_rfl))⟩
  f23 := ⟨Try.f65.name, by decide, Try.func65.trans (congrArg some (by kernel_rfl))⟩
  f24 := ⟨Try.f66.name, by decide, Try.func66.trans (congrArg some (by kernel_rfl))⟩
  f25 := ⟨Try.f67.name, by decide, Try.func67.trans (congrArg some (by kernel_rfl))⟩
  f26 := ⟨Try.f68.name, by decide, Try.func68.trans (congrArg some (by kernel_rfl))⟩
  f27 := ⟨Try.f69.name, by decide, Try.func69.trans (congrArg some (by kernel_rfl))⟩
  f28 := Try.func70.trans (congrArg some (by kernel_rfl))
  f29 := Try.func71.trans (congrArg some (by kernel_rfl))
  f46 := ⟨Try.f72.name, by decide, Try.func72.trans (congrArg some (by kernel_rfl))⟩
  f47 := Try.func73.trans (congrArg some (by kernel_rfl))
  f48 := Try.func74.trans (congrArg some (by kernel_rfl))
  f49 := ⟨Try.f75.name, by decide, Try.func75.trans (congrArg some (by kernel_rfl))⟩
  f50 := ⟨Try.f76.name, by decide, Try.func76.trans (congrArg some (by kernel_rfl))⟩
  f57 := ⟨Try.f77.name, by decide, Try.func77.trans (congrArg some (by kernel_rfl))⟩
  t0 := Try.underlying0
  a0 := Try.isAgg0
  z0 := Try.sizeOf0
  v0 := Try.zeroValue0
  t3 := Try.underlying3
  a3 := Try.isAgg3
  z3 := Try.sizeOf3
  v3 := Try.zeroValue3
  t4 := Try.underlying4
  a4 := Try.isAgg4
  z4 := Try.sizeOf4
  v4 := Try.zeroValue4
  t5 := Try.underlying5
  a5 := Try.isAgg5
  z5 := Try.sizeOf5
  v5 := Try.zeroValue5
  t9 := Try.underlying9
  a9 := Try.isAgg9
  z9 := Try.sizeOf9
  v9 := Try.zeroValue9
  t22 := Try.underlying22
  a22 := Try.isAgg22
  z22 := Try.sizeOf22
  v22 := Try.zeroValue22
  t25 := Try.underlying64
  a25 := Try.isAgg64
  z25 := Try.sizeOf64
  v25 := Try.zeroValue64
  t39 := Try.underlying84
  a39 := Try.isAgg84
  z39 := Try.sizeOf84
  v39 := Try.zeroValue84
  t45 := Try.underlying89
  a45 := Try.isAgg89
  z45 := Try.sizeOf89
  v45 := Try.zeroValue89
  t46 := Try.underlying90
  a46 := Try.isAgg90
  z46 := Try.sizeOf90
  v46 := Try.zeroValue90
  t50 := Try.underlying94
  a50 := Try.isAgg94
  z50 := Try.sizeOf94
  v50 := Try.zeroValue94
  t53 := Try.underlying23
  a53 := Try.isAgg23
  z53 := Try.sizeOf23
  v53 := Try.zeroValue23
  t55 := Try.underlying98
  a55 := Try.isAgg98
  z55 := Try.sizeOf98
  v55 := Try.zeroValue98
  t66 := Try.underlying99
  a66 := Try.isAgg99
  z66 := Try.sizeOf99
  v66 := Try.zeroValue99
  t70 := Try.underlying103
  a70 := Try.isAgg103
  z70 := Try.sizeOf103
  v70 := Try.zeroValue103
  t76 := Try.underlying105
  a76 := Try.isAgg105
  z76 := Try.sizeOf105
  v76 := Try.zeroValue105
  t77 := Try.underlying106
  a77 := Try.isAgg106
  z77 := Try.sizeOf106
  v77 := Try.zeroValue106 }
end Go.Proofs

end
section
namespace Go.Proofs.Ytckffheolnmcnaa.P
open Go.RowKit Go.Shelf Go.Proofs.YtckffheolnmcnaaW.PrintWords Go.Proofs.YtckffheolnmcnaaW.PrintLast Go.Proofs.YtckffheolnmcnaaW.PrintMore
set_option linter.unusedVariables false
set_option linter.unusedSimpArgs false

attribute [local go_sem] Oper.semAt_some
set_option maxRecDepth 100000 in
set_option maxHeartbeats 2000000 in
theorem values1_in (F : Fence) (n : Nat) (h52 : F.fn 52) (hro : F.round = none) (hn : 1 ≤ n) (l Bs : Nat) (A : Option Addr) (cap : Nat) (xs : List S30) (w0 : World) (hC : Kd.C k30 w0 A xs.length xs) (J Jx : List S30 → World → Prop)
    (W : World) (hA : AbidesFrom W.heap.size J)
    (hY : ∀ pre x W1, J pre W1 → pre.length < xs.length → YieldAt F (n - 1) Try.prog l #[.agg #[.int .u32 x.f0, .int .i64 x.f1]] W1 fun e W' =>
      (e = .returned (.bool true) ∧ J (pre ++ [x]) W' ∧ Below w0.heap.size W1 W') ∨ (e = .returned (.bool false) ∧ Jx (pre ++ [x]) W'))
    (hB : Below w0.heap.size w0 W) (hBs : W.cell? ⟨Bs, 0, none⟩ = some (.slice A xs.length cap)) (h0 : J [] W) :
    CallsIn F n Try.prog 52 #[.func (.yield l) #[] #[], .pointer (some ⟨Bs, 0, none⟩)] W fun e W' => (∃ v, e = .returned v) ∧
      ((∃ ys, ys = xs ∧ J ys W') ∨ (∃ pre, pre <+: xs ∧ Jx pre W')) := by
  have hmax := Kd.C_max hC
  refine callsIn_of_wp Try.func52 rfl h52 ?_ hro
  simp only [Try.ntmps52, List.size_toArray, List.length_cons, List.length_nil, Nat.reduceAdd, Nat.reduceSub, Array.replicate_succ, Array.replicate_zero, List.push_toArray, List.append_toArray, List.nil_append, List.cons_append]
  gi_wp2
  gi_loopw [7] (fun i wr => ∃ k : Nat, k ≤ xs.length ∧ i = .int .i64 k ∧ J (xs.take k) wr ∧ Below w0.heap.size w0 wr)
    (fun i _ => xs.length - (intOf i).toNat)
  case atStart => exact ⟨0, Nat.zero_le _, rfl, h0, hB⟩
  case round =>
    obtain ⟨k, hk, rfl, hJs, hnx⟩ := hrel
    by_cases hlt : k < xs.length
    · obtain ⟨ad, hA', hc0, hc1⟩ := at_T30 (Kd.C_below hC hnx) (k : Int) (by omega) (by omega)
      subst hA'
      have hx : xs[k]? = some (rd_T30 xs (k : Int)) := by unfold rd_T30; rw [List.getD_eq_getElem?_getD, Int.toNat_natCast, List.getElem?_eq_getElem hlt]; rfl
      simp only [Int.toNat_natCast] at hc0 hc1
      generalize rd_T30 xs (k : Int) = x at hc0 hc1 hx
      have hw : IntKind.i64.wrap ((k : Int) + 1) = (k : Int) + 1 := IntWalk.i64_in _ (by omega)
      obtain ⟨fn, tmps, assign, body, hy, hR⟩ := hY _ x (wr.alloc (.cells #[.int .u32 x.f0, .int .i64 x.f1] 30)) (hA _ _ _ none hJs (World.grownBy_alloc _ _ none) (fun r e => by cases e)) (by rw [List.length_take]; omega)
      gi_wp2
      refine hR.mono ?_
      rintro e W3 (⟨rfl, hJ3, hk3⟩ | ⟨rfl, hJx3⟩)
      · gi_wp2
        go_roundw
        case rel => exact ⟨k + 1, by omega, by simp, by rw [List.take_add_one, hx]; exact hJ3, (hnx.alloc hnx.size _).trans hk3⟩
        case measure => simp [intOf]; omega
      · gi_wp2
        refine bodyPost_ret (results_none rfl _ _ _) rfl ?_
        exact ⟨⟨_, rfl⟩, .inr ⟨_, ⟨xs.drop (k + 1), by rw [show xs.take k ++ [x] = xs.take (k + 1) by rw [List.take_add_one, hx]; rfl, List.take_append_drop]⟩, hJx3⟩⟩
    · obtain rfl : k = xs.length := by omega
      gi_wp2
      go_end0
      exact ⟨⟨_, rfl⟩, .inl ⟨_, rfl, by rw [List.take_length] at hJs; exact hJs⟩⟩
set_option maxHeartbeats 1000000 in
theorem values_in (F : Fence) (n : Nat) (h41 : F.fn 41) (hro : F.round = none) (a : Option Addr) (len cap : Nat) (w : World) :
    CallsIn F n Try.prog 41 #[.slice a len cap] w fun e w' => e = .returned (.func (.func 52) #[] #[.pointer (some ⟨w.heap.size, 0, none⟩)]) ∧ w' = w.alloc (.cells #[.slice a len cap] 22) := by
  refine callsIn_of_wp Try.func41 rfl h41 ?_ hro
  simp only [Try.ntmps41, List.size_toArray, List.length_cons, List.length_nil, Nat.reduceAdd, Nat.reduceSub, Array.replicate_succ, Array.replicate_zero, List.push_toArray, List.append_toArray, List.nil_append, List.cons_append]
  gi_wp2
  go_ret
  exact ⟨rfl, rfl⟩
theorem values_stops (F : Fence) (n : Nat) (h52 : F.fn 52) (hro : F.round = none) (hn : 1 ≤ n) (Bs : Nat) (A : Option Addr) (cap : Nat) (xs : List S30) (w0 w : World) (hC : Kd.C k30 w0 A xs.length xs) (hB : Below w0.heap.size w0 w) (hBs : Bs < w.heap.size)
    (hc : w.cell? ⟨Bs, 0, none⟩ = some (.slice A xs.length cap)) :
    SeqStopsK F n Try.prog 52 #[.pointer (some ⟨Bs, 0, none⟩)] (fun x : S30 => #[.agg #[.int .u32 x.f0, .int .i64 x.f1]]) (Below w0.heap.size) (fun ys => ys = xs) (fun pre => pre <+: xs) xs.length w := fun l J Jx W hW hA _ hY h0 =>
  values1_in F n h52 hro hn l Bs A cap xs w0 hC J Jx W hA hY (hB.trans (hW.mono hB.size)) ((hW.cell (p := ⟨Bs, 0, none⟩) hBs).trans hc) h0
def encP (x : S30) : List Value := [.int .u32 x.f0, .int .i64 x.f1]
theorem infoP : (Try.prog.info? 30).map (fun i => (i.zero, i.size, i.bytes)) = some (some (.agg #[.int .u32 0, .int .i64 0]), 2, 16) := by kernel_rfl
theorem cells_own' (B : Nat) (t : TypeId) {β : Type} (f : β → Array Value) : Own (fun s (W : World) => W.heap[B]? = some (.cells (f s) t (0, 0))) := by
  intro s X Y row hv hg hrow
  refine (hg.block B (Array.getElem?_eq_some_iff.1 hv).1 (fun e' => ?_)).trans hv
  obtain ⟨o, ho, hc⟩ := hrow B e'.symm
  rw [hv] at ho; cases ho; cases hc
theorem cell2 {W : World} {B : Nat} {u v : Value} {t : TypeId} (h : W.heap[B]? = some (.cells #[u, v] t (0, 0))) : W.cell? ⟨B, 0, none⟩ = some u ∧ W.cell? ⟨B, 1, none⟩ = some v := by
  constructor <;> simp [World.cell?, h]
theorem flat_len (l : List S30) : (l.flatMap encP).length = l.length * 2 := by
  induction l with
  | nil => rfl
  | cons x l ih => rw [List.flatMap_cons, List.length_append, ih, List.length_cons]; show 2 + _ = _; omega
set_option maxRecDepth 100000 in
set_option maxHeartbeats 4000000 in
/-- slices.AppendSeq(nil, seq) -/
theorem appendSeq_in (F : Fence) (n : Nat) (h57 : F.fn 57) (h52 : F.fn 52) (hro : F.round = none) (hn : 3 ≤ n) (Bs : Nat) (A : Option Addr) (cap : Nat) (xs : List S30) (w0 w : World) (hC : Kd.C k30 w0 A xs.length xs) (hl : xs.length ≤ 1000000) (hB : Below w0.heap.size w0 w) (hBs : Bs < w.heap.size)
    (hc : w.cell? ⟨Bs, 0, none⟩ = some (.slice A xs.length cap)) :
    CallsIn F n Try.prog 57 #[.slice none 0 0, .func (.func 52) #[] #[.pointer (some ⟨Bs, 0, none⟩)]] w fun e W' => ∃ v, e = .returned v ∧ W'.ownsRow w.heap.size 30 2 v xs.length (xs.flatMap encP) ∧ Below w.heap.size w W' := by
  have h1 : 1 ≤ n := by omega
  obtain ⟨i0, hi, hz0, hz1, hz2⟩ := info_parts infoP
  refine callsIn_of_wp_marks Try.func57 rfl h57 ?_ hro
  simp only [Try.ntmps57, List.size_toArray, List.length_cons, List.length_nil, Nat.reduceAdd, Nat.reduceSub, Array.replicate_succ, Array.replicate_zero, List.push_toArray, List.append_toArray, List.nil_append, List.cons_append]
  gi_wp2
  have bO := Boxed.new w 22 (.slice none 0 0)
  have hB0 : Below w.heap.size w (w.alloc (.cells #[.slice none 0 0] 22)) := (Below.refl _ w).alloc (Nat.le_refl _) _
  have hsz : (w.alloc (.cells #[.slice none 0 0] 22)).heap.size = w.heap.size + 1 := by simp
  obtain ⟨W0, hW0⟩ : ∃ W0, w.alloc (.cells #[.slice none 0 0] 22) = W0 := ⟨_, rfl⟩
  rw [hW0] at bO hB0 hsz ⊢
  clear hW0
  refine wpIn_rangeFunc_ownH hro h1 (gf := 52) (lb := #[.pointer (some ⟨Bs, 0, none⟩)]) rfl h52 (enters_of Try.func52 (by kernel_rfl) rfl)
    (values_stops F (n - 1) h52 hro (by omega) Bs A cap xs w0 W0 hC (hB.trans (hB0.mono hB.size)) (by omega) ((hB0.cell (p := ⟨Bs, 0, none⟩) hBs).trans hc)) belowK_t (belowK_b (by have := hB.size; omega)) (Below.refl _ _) (fun _ => rfl)
    (fun (pre : List S30) W => (∃ v, Boxed W w.heap.size 22 v ∧ W.ownsRow w.heap.size 30 2 v pre.length (pre.flatMap encP) ∧ True) ∧ Below w.heap.size w W)
    (fun _ _ _ => False)
    (OwnFrom.and (Own.from (holdsRow_own w.heap.size w.heap.size 22 30 2 (fun (pre : List S30) => pre.length) (fun pre => pre.flatMap encP) (fun _ _ => True)) _) (ownFrom_below (Nat.le_refl _) (by omega)))
    (fun _ _ _ _ _ hs _ _ => hs)
    ⟨⟨_, bO, World.ownsRow_nil _ _ _ _, trivial⟩, hB0⟩
    (fun (x : S30) a' W => ∃ Bx, W.heap[Bx]? = some (.cells #[.int .u32 x.f0, .int .i64 x.f1] 30 (0, 0)) ∧ a' = { tmps := #[.slice none 0 0, .func (.func 52) #[] #[.pointer (some ⟨Bs, 0, none⟩)], .pointer (some ⟨w.heap.size, 0, none⟩), undef, .slice none 0 0, .pointer (some ⟨Bx, 0, none⟩), .func (.func 52) #[] #[.pointer (some ⟨Bs, 0, none⟩)], .agg #[.int .u32 x.f0, .int .i64 x.f1], undef, undef, undef, undef, undef], defers := [] })
    (fun x a' _ X Y row hs hg hr => by obtain ⟨Bx, h2, h3⟩ := hs; exact ⟨Bx, cells_own' Bx 30 (fun (_ : Unit) => #[.int .u32 x.f0, .int .i64 x.f1]) () X Y row h2 hg (fun r e => (hr r e).2), h3⟩)
    ?assign ?body ?done ?stop
  case assign =>
    rintro l pre x W K ⟨⟨v, hv, hrow, _⟩, hB1⟩ hK
    gi_wp2
    exact hK _ _ ((KeepsOthers.alloc _ _).from _) ((Below.refl _ W).alloc (Nat.le_trans hB.size hB1.size) _) ⟨⟨v, hv.alloc _, hrow.alloc _, trivial⟩, hB1.alloc hB1.size _⟩ ⟨W.heap.size, World.alloc_heap_new W _, rfl⟩
  case body =>
    rintro l pre x a' W _ _ ⟨⟨v, hv, hrow, _⟩, hB1⟩ ⟨Bx, hx, rfl⟩ hlt
    have hc := hv.cell
    obtain ⟨hx0, hx1⟩ := cell2 hx
    gi_wp2_with (gi_at_builtin; refine wpListIn_append_own _ rfl _ _ 22 rfl w.heap.size 30 i0 (.agg #[.int .u32 0, .int .i64 0]) 2 16 Try.underlying22 hi hz0 hz1 hz2 rfl (by decide) _ _ _ rfl (hrow.alloc _) ⟨W.heap.size, 0, none⟩ 1 1 (encP x) rfl rfl (fun j u hu => by rw [WideShapes.add_plain, World.cell?_alloc_mark]; simpa [encP] using hu) (by simp [encP, Value.oneCell']) (by have : maxLen = 9223372036854775807 := rfl; omega) (by omega) (by have := hB1.size; simp; omega) ?_; intro v' w1 hown' hgrow _; obtain ⟨g', cap', rfl⟩ := ownsRow_succ hown'; obtain ⟨hv1, hv2, hr2, hk2, hb2⟩ := hv.appended (by decide) hrow hB1.size (Nat.le_refl _) hown' hgrow; have hc1 := hv1.cell; have hf1 := hv1.frozen)
    exact ⟨hk2.from _, hb2.mono hB.size, ⟨_, hv2, by rw [List.flatMap_append, List.length_append]; simpa using hr2, trivial⟩, hB1.trans hb2⟩
  case done =>
    rintro D ys W hD rfl ⟨⟨v, hv, hrow, _⟩, hB1⟩ hK
    have hc := hv.cell
    gi_wp2
    refine ⟨by simp, .inl ⟨_, _, rfl, run_takeDeferred hK, ?_⟩⟩
    exact ⟨_, results_tmp rfl _ _ _, v, rfl, ownsRow_putObj hrow _ hK rfl, hB1.trans (belowK_b (w := w) (Nat.le_refl _) W D _ _ (by omega) hK rfl rfl)⟩
  case stop =>
    rintro D c pre W _ _ h _
    exact h.elim
end Go.Proofs.Ytckffheolnmcnaa.P

end
section
namespace Go.Proofs.Ytckffheolnmcnaa.P
open Go.RowKit Go.Sort Go.Proofs.YtckffheolnmcnaaW.PrintWords Go.Proofs.YtckffheolnmcnaaW.PrintLast Go.Proofs.YtckffheolnmcnaaW.PrintMore
set_option linter.unusedVariables false
set_option linter.unusedSimpArgs false

instance : Inhabited S30 := ⟨⟨0, 0⟩⟩
/-- the cells of an own row -/
theorem own_cells {w : World} {base g n cap : Nat} {ok : Nat → Prop} {l : List S30} (h : Kd.R k30 30 w base ok (.slice (some ⟨g, 0, none⟩) n cap) l) :
    ∃ cur : Array Value, w.heap[g]? = some (.cells cur 30 (0, 0)) ∧ cur.size = cap * 2 ∧ n = l.length ∧ n ≤ cap ∧ cap ≤ maxLen ∧ base ≤ g ∧ ok g ∧
      ∀ (j : Nat) (x : S30), l[j]? = some x → ∀ (i : Nat) (u : Value), (encP x)[i]? = some u → cur.toList[j * 2 + i]? = some u := by
  obtain ⟨h0, inner, ⟨hl, hr⟩, hrep⟩ := h
  rcases hr with ⟨he, _⟩ | ⟨g', cap', cur, he, hb, hh, hn, hm, hs, ht⟩
  · cases he
  · injection he with e1 e2 e3
    injection e1 with e1
    injection e1 with e1
    subst e1; subst e2; subst e3
    refine ⟨cur, hh, hs, rfl, hn, hm, hb, h0 _ rfl, ?_⟩
    intro j x hx i u hu
    have e : (inner.drop (j * 2)).take 2 = encP x := k30_openM (hrep.2 j x hx)
    have hi3 : i < 2 := (List.getElem?_eq_some_iff.1 hu).1
    have this : inner[j * 2 + i]? = some u := by
      rw [← e, List.getElem?_take_of_lt hi3, List.getElem?_drop] at hu
      exact hu
    have ht' : cur.toList.take (l.length * 2) = inner := ht
    rw [← ht'] at this
    have hi : j * 2 + i < l.length * 2 := by
      have h1 : j < l.length := (List.getElem?_eq_some_iff.1 hx).1
      have h2 : i < (encP x).length := (List.getElem?_eq_some_iff.1 hu).1
      have h3 : (encP x).length = 2 := rfl
      rw [h3] at h2
      omega
    rwa [List.getElem?_take_of_lt hi] at this
theorem own_of_cells {w : World} {base g cap : Nat} {ok : Nat → Prop} {l : List S30} {cur : Array Value} (hh : w.heap[g]? = some (.cells cur 30 (0, 0))) (hs : cur.size = cap * 2) (hn : l.length ≤ cap) (hm : cap ≤ maxLen) (hb : base ≤ g) (hok : ok g)
    (hc : ∀ (j : Nat) (x : S30), l[j]? = some x → ∀ (i : Nat) (u : Value), (encP x)[i]? = some u → cur.toList[j * 2 + i]? = some u) :
    Kd.R k30 30 w base ok (.slice (some ⟨g, 0, none⟩) l.length cap) l := by
  have hsl : cur.toList.length = cap * 2 := by rw [Array.length_toList]; exact hs
  refine ⟨fun k hk => by simp [Value.ownBlock] at hk; subst hk; exact hok, cur.toList.take (l.length * 2), ⟨?_, .inr ⟨g, cap, cur, rfl, hb, hh, hn, hm, hs, rfl⟩⟩, ?_⟩
  · rw [List.length_take, hsl]
    show min (l.length * 2) (cap * 2) = l.length * 2
    omega
  · refine ⟨?_, ?_⟩
    · rw [List.length_take, hsl]
      show min (l.length * 2) (cap * 2) = l.length * 2
      omega
    · intro j x hx
      have e : ((cur.toList.take (l.length * 2)).drop (j * 2)).take 2 = encP x := by
        have h1 : j < l.length := (List.getElem?_eq_some_iff.1 hx).1
        apply List.ext_getElem?
        intro i
        by_cases hi : i < 2
        · rw [List.getElem?_take_of_lt hi, List.getElem?_drop, List.getElem?_take_of_lt (by omega)]
          have h2 : i < (encP x).length := hi
          rw [List.getElem?_eq_getElem h2]
          exact hc j x hx i _ (List.getElem?_eq_getElem h2)
        · rw [List.getElem?_eq_none (by rw [List.length_take]; omega), List.getElem?_eq_none (by show (encP x).length ≤ i; have : (encP x).length = 2 := rfl; omega)]
      show Kd.M k30 _ _ _ x (((cur.toList.take (l.length * 2)).drop (j * 2)).take 2)
      rw [e]
      exact k30_mkM _ _ _ _
theorem ordP_ord : Ord ordP := orI_ord (cmpI_ord.pull _) (cmpI_ord.pull _)
theorem ordP_zero (x y : S30) : ordP x y = 0 ↔ x = y := by
  cases x; cases y
  unfold ordP
  rw [orI_zero, cmpI_zero, cmpI_zero]; simp
def sortP (l : List S30) : List S30 := l.mergeSort fun x y => !(ltOf ordP) y x
theorem ordP_swo : SWO (ltOf ordP) := by
  refine ⟨fun x => ?_, fun x y z h1 h2 => ?_, fun x y z h1 h2 => ?_⟩
  · unfold ltOf; rw [ordP_ord.self]; rfl
  · unfold ltOf at *
    have h1 := of_decide_eq_true h1
    have h2 := of_decide_eq_true h2
    have h3 := ordP_ord.2 x y z (by omega) (by omega)
    have h4 := ordP_ord.zero (a := x) (b := y) (d := z) (by omega) (by omega)
    exact decide_eq_true (by omega)
  · unfold ltOf at *
    have h1 := of_decide_eq_false h1
    have h2 := of_decide_eq_false h2
    have e1 := ordP_ord.1 x y
    have e2 := ordP_ord.1 y z
    have e3 := ordP_ord.1 x z
    have h3 := ordP_ord.2 z y x (by omega) (by omega)
    exact decide_eq_false (by omega)
set_option maxHeartbeats 1000000 in
theorem sort_pre (v : Value) (l : List S30) (base : Nat) (w : World) (HR : Kd.R k30 30 w base (fun _ => True) v l) (hl : l.length ≤ 1000000) :
    Calls Try.prog 51 #[v, .func (.func 42) #[] #[]] w fun e w' => e = .returned (.tuple #[]) ∧ Kd.R k30 30 w' base (fun _ => True) v (sortP l) ∧ Below base w w' := by
  have hnil : ∀ (p : Option Addr) (cap : Nat), v = .slice p 0 cap → l = [] → Calls Try.prog 51 #[v, .func (.func 42) #[] #[]] w fun e w' => e = .returned (.tuple #[]) ∧ Kd.R k30 30 w' base (fun _ => True) v (sortP l) ∧ Below base w w' := by
    intro p cap hv e0
    subst hv
    refine (Go.Proofs.AnyF.slices_SortFunc_none Try.sortX p cap _ w).mono ?_
    rintro e w' ⟨rfl, rfl⟩
    refine ⟨rfl, ?_, Below.refl _ _⟩
    subst e0
    rw [show sortP [] = [] from by simp [sortP]]
    exact HR
  obtain ⟨p, cap, hv⟩ := Kd.R_slice HR
  by_cases h0 : l = []
  · exact hnil p cap (by rw [hv, h0]; rfl) h0
  · have hpos : 0 < l.length := List.length_pos_iff.2 h0
    obtain ⟨g, hg⟩ : ∃ g, p = some ⟨g, 0, none⟩ := by
      obtain ⟨_, inner, ⟨_, hr⟩, _⟩ := HR
      rcases hr with ⟨he, hz⟩ | ⟨g, cap', cur, he, _⟩
      · omega
      · rw [hv] at he
        injection he with e1
        exact ⟨g, e1⟩
    subst hg
    subst hv
    obtain ⟨cur, hh, hs, _, hn, hm, hb, _, hc⟩ := own_cells HR
    have hH : HoldsK encP 2 w g 0 l.toArray := by
      intro t ht
      rw [size_flatK] at ht
      have ht2 : t < l.length * 2 := by simpa using ht
      rw [get_flatK _ _ _ _ (by simpa using ht2)]
      have hj : t / 2 < l.length := by omega
      have hx : l[t / 2]? = some l.toArray[t / 2]! := by simp [hj]
      have hi : t % 2 < (encP l.toArray[t / 2]!).length := Nat.mod_lt _ (by decide)
      have hu : (encP l.toArray[t / 2]!)[t % 2]? = some (encP l.toArray[t / 2]!)[t % 2]! := by rw [List.getElem?_eq_getElem hi, getElem!_pos (encP l.toArray[t / 2]!) (t % 2) hi]
      have hcell := hc _ _ hx _ _ hu
      rw [show t / 2 * 2 + t % 2 = t by omega] at hcell
      rw [Nat.zero_add]
      refine ⟨?_, by simp [World.frozen?, hh]⟩
      rw [cell_of_row w g t cur _ (0, 0) hh, ← Array.getElem?_toList]
      exact hcell
    have hblk : g < w.heap.size := by
      rcases Nat.lt_or_ge g w.heap.size with h | h
      · exact h
      · rw [Array.getElem?_eq_none h] at hh; cases hh
    refine (Go.Proofs.AnyQ.slices_SortFunc_total Try.sortX 2 Try.isAgg30 Try.sizeOf30 encP (fun _ => rfl) (fun x u hu => by simp [encP] at hu; rcases hu with rfl | rfl <;> rfl) ordP ordP_swo 42 #[] g 0 cap l.toArray w (fun _ _ => by go_simp)
      (fun m os dk _ x y => (orderP_grow x y _).mono fun e w' h => h) hH hblk (by simp; omega) (fun x y h1 h2 => ?_)).mono ?_
    · unfold ltOf at h1 h2
      have h1 := of_decide_eq_false h1
      have h2 := of_decide_eq_false h2
      have e1 := ordP_ord.1 x y
      exact (ordP_zero x y).1 (by omega)
    · rintro e w' ⟨rfl, n, os, rfl⟩
      have hperm : (sortP l).length = l.length := by unfold sortP; exact List.length_mergeSort _
      refine ⟨rfl, ?_, ?_⟩
      · have hH2 := holdsK_sortWorldK_c encP 2 w g 0 l.toArray (sortP l).toArray n os hH hblk (by simp [hperm])
        have hcur2 : ∃ cur2 : Array Value, (sortWorldK encP 2 w g 0 n (sortP l).toArray os).heap[g]? = some (.cells cur2 30 (0, 0)) ∧ cur2.size = cur.size := by
          unfold sortWorldK putRowK
          rw [heap_grow_old _ _ (by rw [size_putRow]; exact hblk)]
          unfold putRow mapBlock
          refine ⟨putCells id 0 (flatK encP 2 (sortP l).toArray) cur, ?_, by simp [putCells]⟩
          show ((Go.Sort.ahead w n).heap.modify g _)[g]? = _
          rw [Array.getElem?_modify]
          show (if g = g then (w.heap[g]?).map _ else _) = _
          rw [if_pos rfl, hh]; rfl
        obtain ⟨cur2, h2, h3⟩ := hcur2
        rw [show l.length = (sortP l).length from hperm.symm]
        refine own_of_cells (l := sortP l) h2 (by rw [h3]; exact hs) (by rw [hperm]; exact hn) hm hb trivial ?_
        intro j x hx i u hu
        have hj : j < (sortP l).toArray.size := by have := (List.getElem?_eq_some_iff.1 hx).1; simpa using this
        have hi : i < 2 := (List.getElem?_eq_some_iff.1 hu).1
        have hcl := (HoldsK.cell hH2 hj hi).1
        rw [Nat.zero_add, cell_of_row _ g _ cur2 _ (0, 0) h2] at hcl
        have ex : (sortP l).toArray[j]! = x := by
          have := (List.getElem?_eq_some_iff.1 hx).2
          rw [getElem!_pos (sortP l).toArray j hj]; simpa using this
        rw [ex] at hcl
        rw [Array.getElem?_toList, hcl]
        have hu2 : i < (encP x).length := hi
        rw [List.getElem?_eq_getElem hu2] at hu
        rw [getElem!_pos (encP x) i hu2]
        exact hu
      · refine ⟨rfl, rfl, rfl, ?_, ?_⟩
        · unfold sortWorldK putRowK
          rw [size_grow, size_putRow]
          show w.heap.size ≤ w.heap.size + os.size
          omega
        · intro k hk
          unfold sortWorldK putRowK
          have hk2 : k < w.heap.size := by omega
          rw [heap_grow_old _ _ (by rw [size_putRow]; exact hk2)]
          unfold putRow mapBlock
          show ((Go.Sort.ahead w n).heap.modify g _)[k]? = _
          rw [Array.getElem?_modify, if_neg (by omega)]; rfl
end Go.Proofs.Ytckffheolnmcnaa.P

end
section
namespace Go.Proofs.Ytckffheolnmcnaa.P
open Go.RowKit Go.Shelf Go.Proofs.YtckffheolnmcnaaW.PrintWords Go.Proofs.YtckffheolnmcnaaW.PrintLast Go.Proofs.YtckffheolnmcnaaW.PrintMore
set_option linter.unusedVariables false
set_option linter.unusedSimpArgs false

theorem reps_flat (w : World) (xs : List S30) : Reps (((k30) : Kd S30).K w) 2 xs (xs.flatMap encP) := by
  refine ⟨flat_len xs, fun j p hj => ?_⟩
  have e : ((xs.flatMap encP).drop (j * 2)).take 2 = encP p := by
    induction xs generalizing j with
    | nil => cases hj
    | cons x xs ih =>
      cases j with
      | zero => simp at hj; subst hj; rfl
      | succ j =>
        have hj' : xs[j]? = some p := by simpa using hj
        have := ih j hj'
        rw [List.flatMap_cons, show (j + 1) * 2 = (encP x).length + j * 2 from by show (j + 1) * 2 = 2 + j * 2; omega, List.drop_append]
        have h0 : (encP x).drop ((encP x).length + j * 2) = [] := List.drop_eq_nil_of_le (by omega)
        rw [h0, List.nil_append, Nat.add_sub_cancel_left]
        exact this
  show Kd.K k30 w p (((xs.flatMap encP).drop (j * 2)).take 2)
  rw [e]
  exact k30_mk w p
set_option maxHeartbeats 1000000 in
set_option maxRecDepth 100000 in
theorem collect_pre (Bs : Nat) (A : Option Addr) (cap : Nat) (xs : List S30) (w0 w : World) (hC : Kd.C k30 w0 A xs.length xs) (hl : xs.length ≤ 1000000) (hB : Below w0.heap.size w0 w) (hBs : Bs < w.heap.size)
    (hc : w.cell? ⟨Bs, 0, none⟩ = some (.slice A xs.length cap)) :
    Calls Try.prog 50 #[.func (.func 52) #[] #[.pointer (some ⟨Bs, 0, none⟩)]] w fun e w' => ∃ v : Value, e = .returned v ∧ Kd.R k30 30 w' w.heap.size (fun _ => True) v xs ∧ Below w.heap.size w w' := by
  have HS := mkHid ((callsIn_wide (n := 3)).1 (appendSeq_in Fence.wide 3 trivial trivial rfl (by omega) Bs A cap xs w0 w hC hl hB hBs hc))
  clear hC hl hB hBs hc
  go_enter Try.func50, Try.ntmps50
  go_wp2_with fail
  refine HS.out.mono ?_
  rintro e w' ⟨v, rfl, hown, hb⟩
  have hR : Kd.R k30 30 w' w.heap.size (fun _ => True) v xs := flat_own (d := k30) (w := w') (fun hK w1 b ok => by rw [k30_open hK]; exact k30_mkM _ _ _ _) hown rfl (reps_flat w' xs)
  obtain ⟨A1, c1, rfl⟩ := Kd.R_slice hR
  have HR := mkHid hR
  have HB := mkHid hb
  clear hR hown hb
  go_wp2_with fail
  go_ret
  exact ⟨_, rfl, HR.out, HB.out⟩
set_option maxHeartbeats 1000000 in
set_option maxRecDepth 100000 in
theorem sorted_pre (Bs : Nat) (A : Option Addr) (cap : Nat) (xs : List S30) (w0 w : World) (hC : Kd.C k30 w0 A xs.length xs) (hl : xs.length ≤ 1000000) (hB : Below w0.heap.size w0 w) (hBs : Bs < w.heap.size)
    (hc : w.cell? ⟨Bs, 0, none⟩ = some (.slice A xs.length cap)) :
    Calls Try.prog 40 #[.func (.func 52) #[] #[.pointer (some ⟨Bs, 0, none⟩)], .func (.func 42) #[] #[]] w fun e w' => ∃ v : Value, e = .returned v ∧ Kd.R k30 30 w' w.heap.size (fun _ => True) v (sortP xs) ∧ Below w.heap.size w w' := by
  have HS := mkHid (collect_pre Bs A cap xs w0 w hC hl hB hBs hc)
  have HL := mkHid hl
  clear hC hl hB hBs hc
  go_enter Try.func40, Try.ntmps40
  go_wp2_with fail
  refine HS.out.mono ?_
  rintro e w1 ⟨v, rfl, hR, hb⟩
  obtain ⟨A1, c1, rfl⟩ := Kd.R_slice hR
  have HR := mkHid hR
  have HB := mkHid hb
  clear hR hb
  go_wp2_with fail
  refine (sort_pre _ xs w.heap.size w1 HR.out HL.out).mono ?_
  rintro e w2 ⟨rfl, hR, hb⟩
  have HR2 := mkHid hR
  have HB2 := mkHid (HB.out.trans hb)
  clear hR hb
  go_wp2_with fail
  go_ret
  exact ⟨_, rfl, HR2.out, HB2.out⟩
end Go.Proofs.Ytckffheolnmcnaa.P

end
section
namespace Go.Proofs.Ytckffheolnmcnaa.P
open Go.RowKit Go.Shelf Go.Proofs.YtckffheolnmcnaaW.PrintWords Go.Proofs.YtckffheolnmcnaaW.PrintLast Go.Proofs.YtckffheolnmcnaaW.PrintMore
set_option linter.unusedVariables false
set_option linter.unusedSimpArgs false

theorem own_cell {w : World} {base g n cap : Nat} {ok : Nat → Prop} {l : List S30} (h : Kd.R k30 30 w base ok (.slice (some ⟨g, 0, none⟩) n cap) l) {j o : Nat} {x : S30} (hx : l[j]? = some x) (ho : o = j * 2) :
    w.cell? ⟨g, o, none⟩ = some (.int .u32 x.f0) ∧ w.cell? ⟨g, o + 1, none⟩ = some (.int .i64 x.f1) := by
  subst ho
  obtain ⟨cur, hh, _, _, _, _, _, _, hc⟩ := own_cells h
  constructor
  · rw [cell_of_row w g _ cur _ (0, 0) hh, ← Array.getElem?_toList]; exact hc j x hx 0 _ rfl
  · rw [cell_of_row w g _ cur _ (0, 0) hh, ← Array.getElem?_toList]; exact hc j x hx 1 _ rfl
theorem own_frozen {w : World} {base g n cap : Nat} {ok : Nat → Prop} {l : List S30} (h : Kd.R k30 30 w base ok (.slice (some ⟨g, 0, none⟩) n cap) l) (o : Nat) : w.frozen? ⟨g, o, none⟩ = false := by
  obtain ⟨cur, hh, _⟩ := own_cells h
  simp [World.frozen?, hh]
theorem own_take {w : World} {base g n cap m : Nat} {ok : Nat → Prop} {l : List S30} (h : Kd.R k30 30 w base ok (.slice (some ⟨g, 0, none⟩) n cap) l) (hm : m ≤ n) :
    Kd.R k30 30 w base ok (.slice (some ⟨g, 0, none⟩) m cap) (l.take m) := by
  obtain ⟨cur, hh, hs, hn, hnc, hmx, hb, hok, hc⟩ := own_cells h
  have hl : (l.take m).length = m := by rw [List.length_take]; omega
  have := own_of_cells (ok := ok) (l := l.take m) hh hs (by omega) hmx hb hok (fun j x hx i u hu => by
    have hj : j < m := by have := (List.getElem?_eq_some_iff.1 hx).1; omega
    rw [List.getElem?_take_of_lt hj] at hx
    exact hc j x hx i u hu)
  rw [hl] at this
  exact this
theorem own_bits {w w0 : World} {base g n cap j : Nat} {ok : Nat → Prop} {l : List S30} {x : S30} (h : Kd.R k30 30 w base ok (.slice (some ⟨g, 0, none⟩) n cap) l) (hx : l[j]? = some x) (v : Int) (hB : Below base w0 w) :
    Kd.R k30 30 (w.setCell ⟨g, j * 2 + 1, none⟩ (.int .i64 v)) base ok (.slice (some ⟨g, 0, none⟩) n cap) (l.set j ⟨x.f0, v⟩) ∧ Below base w0 (w.setCell ⟨g, j * 2 + 1, none⟩ (.int .i64 v)) := by
  obtain ⟨cur, hh, hs, hn, hnc, hmx, hb, hok, hc⟩ := own_cells h
  have hj : j < l.length := (List.getElem?_eq_some_iff.1 hx).1
  refine ⟨?_, hB.setCell (p := ⟨g, j * 2 + 1, none⟩) hb _⟩
  have hfit : j * 2 + 1 + [Value.int .i64 v].length ≤ cur.size := by rw [hs]; show j * 2 + 1 + 1 ≤ cap * 2; omega
  obtain ⟨cur', h3, h4, h5⟩ := setCells_row [Value.int .i64 v] (j * 2 + 1) w cur hh hfit
  have hl : (l.set j ⟨x.f0, v⟩).length = l.length := List.length_set
  have hc0 := hc j x hx 0 _ rfl
  have := own_of_cells (ok := ok) (l := l.set j ⟨x.f0, v⟩) h3 (by rw [h4]; exact hs) (by rw [hl]; omega) hmx hb hok (fun i y hy q u hu => by
    have hq : q < 2 := (List.getElem?_eq_some_iff.1 hu).1
    have hi : i < l.length := by have := (List.getElem?_eq_some_iff.1 hy).1; omega
    have hsz : cur.toList.length = cap * 2 := by rw [Array.length_toList]; exact hs
    have htl : (cur.toList.take (j * 2 + 1)).length = j * 2 + 1 := by rw [List.length_take]; omega
    rw [h5]
    show (cur.toList.take (j * 2 + 1) ++ [Value.int .i64 v] ++ cur.toList.drop (j * 2 + 1 + 1))[i * 2 + q]? = some u
    by_cases hij : i = j
    · subst hij
      rw [List.getElem?_set_self hj] at hy
      obtain rfl := Option.some.inj hy
      match q with
      | 0 =>
        rw [List.append_assoc, List.getElem?_append_left (by omega), List.getElem?_take_of_lt (by omega)]
        simp [encP] at hu
        subst hu
        exact hc0
      | 1 =>
        rw [List.append_assoc, List.getElem?_append_right (by omega), htl, Nat.sub_self]
        exact hu
      | q + 2 => omega
    · rw [List.getElem?_set_ne (fun e => hij e.symm)] at hy
      have := hc i y hy q u hu
      by_cases hlt : i < j
      · rw [List.append_assoc, List.getElem?_append_left (by omega), List.getElem?_take_of_lt (by omega)]
        exact this
      · rw [List.getElem?_append_right (by rw [List.length_append, htl]; show j * 2 + 1 + 1 ≤ _; omega), List.length_append, htl, List.getElem?_drop]
        rw [show j * 2 + 1 + 1 + (i * 2 + q - (j * 2 + 1 + [Value.int .i64 v].length)) = i * 2 + q by show j * 2 + 1 + 1 + (i * 2 + q - (j * 2 + 1 + 1)) = _; omega]
        exact this)
  rw [hl, ← hn] at this
  exact this
theorem ownP_at {w : World} {base n c : Nat} {A : Option Addr} {ok : Nat → Prop} {l : List S30} (h : Kd.R k30 30 w base ok (.slice A n c) l) (hn : 0 < l.length) : ∃ g, A = some ⟨g, 0, none⟩ := by
  obtain ⟨_, inner, ⟨_, hr⟩, _⟩ := h
  rcases hr with ⟨he, hz⟩ | ⟨g, cap', cur, he, _⟩
  · omega
  · injection he with e1
    exact ⟨g, e1⟩
theorem con_keep (y p : S30) (b : Bool) (h : addr_Contains.f y.f0 y.f1 p.f0 p.f1 = some b) (g o B : Nat) (w : World) (k0 : w.cell? ⟨g, o, none⟩ = some (.int .u32 y.f0)) (k1 : w.cell? ⟨g, o + 1, none⟩ = some (.int .i64 y.f1)) (k2 : w.cell? ⟨B, 0, none⟩ = some (.int .u32 p.f0)) (k3 : w.cell? ⟨B, 1, none⟩ = some (.int .i64 p.f1)) :
    Calls Try.prog 19 #[.agg #[.int .u32 y.f0, .int .i64 y.f1], .agg #[.int .u32 p.f0, .int .i64 p.f1]] w fun e w' => e = .returned (.bool b) ∧ (w'.cell? ⟨g, o, none⟩ = some (.int .u32 y.f0) ∧ w'.cell? ⟨g, o + 1, none⟩ = some (.int .i64 y.f1) ∧ w'.cell? ⟨B, 0, none⟩ = some (.int .u32 p.f0) ∧ w'.cell? ⟨B, 1, none⟩ = some (.int .i64 p.f1)) ∧ Below w.heap.size w w' :=
  (addr_Contains.calls _ _ _ _ _ w h).mono fun e w' ⟨he, hb⟩ => ⟨he, ⟨(hb.cell (p := ⟨g, o, none⟩) (World.block_lt_of_cell? _ _ k0)).trans k0, (hb.cell (p := ⟨g, o + 1, none⟩) (World.block_lt_of_cell? _ _ k1)).trans k1, (hb.cell (p := ⟨B, 0, none⟩) (World.block_lt_of_cell? _ _ k2)).trans k2, (hb.cell (p := ⟨B, 1, none⟩) (World.block_lt_of_cell? _ _ k3)).trans k3⟩, hb⟩
theorem sis_keep (k : Nat) (x y : S30) (b : Bool) (h : addr_sister.f k x.f0 x.f1 y.f0 y.f1 = some b) (g o o2 : Nat) (w : World) (k0 : w.cell? ⟨g, o, none⟩ = some (.int .u32 x.f0)) (k1 : w.cell? ⟨g, o + 1, none⟩ = some (.int .i64 x.f1)) (k2 : w.cell? ⟨g, o2, none⟩ = some (.int .u32 y.f0)) (k3 : w.cell? ⟨g, o2 + 1, none⟩ = some (.int .i64 y.f1)) :
    Calls Try.prog 46 #[.agg #[.int .u32 x.f0, .int .i64 x.f1], .agg #[.int .u32 y.f0, .int .i64 y.f1]] w fun e w' => e = .returned (.bool b) ∧ (w'.cell? ⟨g, o, none⟩ = some (.int .u32 x.f0) ∧ w'.cell? ⟨g, o + 1, none⟩ = some (.int .i64 x.f1) ∧ w'.cell? ⟨g, o2, none⟩ = some (.int .u32 y.f0) ∧ w'.cell? ⟨g, o2 + 1, none⟩ = some (.int .i64 y.f1)) ∧ Below w.heap.size w w' :=
  (addr_sister.calls _ _ _ _ _ _ w h).mono fun e w' ⟨he, hb⟩ => ⟨he, ⟨(hb.cell (p := ⟨g, o, none⟩) (World.block_lt_of_cell? _ _ k0)).trans k0, (hb.cell (p := ⟨g, o + 1, none⟩) (World.block_lt_of_cell? _ _ k1)).trans k1, (hb.cell (p := ⟨g, o2, none⟩) (World.block_lt_of_cell? _ _ k2)).trans k2, (hb.cell (p := ⟨g, o2 + 1, none⟩) (World.block_lt_of_cell? _ _ k3)).trans k3⟩, hb⟩
end Go.Proofs.Ytckffheolnmcnaa.P

end
section
namespace Go.Proofs.Ytckffheolnmcnaa.P
open Go.RowKit Go.Proofs.YtckffheolnmcnaaW.PrintWords Go.Proofs.YtckffheolnmcnaaW.PrintLast Go.Proofs.YtckffheolnmcnaaW.PrintMore
attribute [local go_sem] max2_int min2_int max_two min_two max_three min_three max_four min_four   -- for this text's walks alone
set_option linter.unusedVariables false
set_option linter.unusedSimpArgs false

def addr_plain.up (k : Nat) : Nat → List S30 → Option (List S30)
  | n + 1, y :: x :: r => (addr_sister.f k x.f0 x.f1 y.f0 y.f1).bind fun b => if b = true then addr_plain.up k n (⟨x.f0, wrap64 (x.f1 - 1)⟩ :: r) else some (y :: x :: r)
  | _, s => some s
def addr_plain.go (k : Nat) : List S30 → List S30 → Option (List S30)
  | s, [] => some s
  | [], p :: l => addr_plain.go k [p] l
  | y :: s, p :: l => (addr_Contains.f y.f0 y.f1 p.f0 p.f1).bind fun b => if b = true then addr_plain.go k (y :: s) l else (addr_plain.up k (s.length + 1) (p :: y :: s)).bind fun z => addr_plain.go k z l
def addr_plain.f (k : Nat) (l0 : List S30) : Option (List S30) := if l0.length ≤ 1000000 then (addr_plain.go k [] (sortP l0)).bind fun z => some z.reverse else none
theorem addr_plain.up_mono (k : Nat) : ∀ n s, LeO (addr_plain.up k n s) (addr_plain.up (k + 1) n s) := by
  intro n
  induction n with
  | zero => intro s; unfold addr_plain.up; exact LeO.refl _
  | succ n ih =>
    intro s
    match s with
    | [] => exact LeO.refl _
    | [x] => exact LeO.refl _
    | y :: x :: r =>
      show LeO (Option.bind _ _) (Option.bind _ _)
      refine LeO.bind (addr_sister.mono _ _ _ _ _) (fun b => ?_)
      split
      · exact ih _
      · exact LeO.refl _
theorem addr_plain.go_mono (k : Nat) : ∀ l s, LeO (addr_plain.go k s l) (addr_plain.go (k + 1) s l) := by
  intro l
  induction l with
  | nil => intro s; cases s <;> exact LeO.refl _
  | cons p l ih =>
    intro s
    cases s with
    | nil => exact ih _
    | cons y s =>
      show LeO (Option.bind _ _) (Option.bind _ _)
      refine LeO.bind (LeO.refl _) (fun b => ?_)
      split
      · exact ih _
      · exact LeO.bind (addr_plain.up_mono _ _ _) (fun z => ih _)
theorem addr_plain.mono : ∀ a0 k, LeO (addr_plain.f k a0) (addr_plain.f (k + 1) a0) := by
  intro a0 k
  unfold addr_plain.f
  split
  · exact LeO.bind (addr_plain.go_mono _ _ _) (fun _ => LeO.refl _)
  · exact LeO.refl _
set_option maxHeartbeats 4000000 in
set_option maxRecDepth 100000 in
theorem addr_plain.calls (k : Nat) (A0 : Option Addr) (c0 : Nat) (l0 : List S30) (r : List S30) (w : World) (hr0 : Kd.C k30 w A0 l0.length l0) (hc0 : l0.length ≤ c0) (h : addr_plain.f k l0 = some r) :
    Calls Try.prog 31 #[.slice A0 l0.length c0] w fun e w' => ∃ v0_ : Value, e = .returned v0_ ∧ Kd.R k30 30 w' w.heap.size (fun _ => True) v0_ r ∧ Below w.heap.size w w' := by
  have hmax := Kd.C_max hr0
  obtain ⟨i0_, hi_, hz0_, hz1_, hz2_⟩ := info_parts infoP
  have HI := mkHid hi_
  clear hi_ hz0_ hz1_ hz2_
  unfold addr_plain.f at h
  split at h
  · rename_i hl
    obtain ⟨z, hz, h1⟩ := Option.bind_eq_some_iff.mp h
    obtain rfl := Option.some.inj h1
    have HR0 := mkHid hr0
    have HL := mkHid hl
    have HZ0 := mkHid hz
    clear hr0 hz h hl h1
    go_enter Try.func31, Try.ntmps31
    go_wp2_with fail
    refine ((callsIn_wide (n := 1)).1 (values_in Fence.wide 1 trivial rfl _ _ _ _)).mono ?_
    rintro e w1 ⟨rfl, hw1⟩
    have HB1 : Hid (Below w.heap.size w w1) := by rw [hw1]; exact (Below.refl _ w).alloc (Nat.le_refl _) _
    have HC1 : Hid (w1.cell? ⟨w.heap.size, 0, none⟩ = some (.slice A0 l0.length c0)) := by unfold Hid; rw [hw1]; go_simp
    have HS1 : Hid (w.heap.size < w1.heap.size) := by unfold Hid; rw [hw1]; simp
    clear hw1
    go_wp2_with fail
    refine (sorted_pre w.heap.size A0 c0 l0 w w1 HR0.out HL.out HB1.out HS1.out HC1.out).mono ?_
    rintro e w2 ⟨v2, rfl, hR, hb⟩
    obtain ⟨A2, c2, rfl⟩ := Kd.R_slice hR
    obtain ⟨l, hl⟩ : ∃ l, l = sortP l0 := ⟨_, rfl⟩
    have HZ : Hid (addr_plain.go k [] l = some z) := by rw [hl]; exact HZ0.out
    rw [← hl] at hR ⊢
    have HS2 := mkHid (Kd.R_reads' hR).2.2
    have HB2 := mkHid (below_step HB1.out hb)
    have hlen : l.length ≤ 1000000 := by rw [hl]; unfold sortP; rw [List.length_mergeSort]; exact HL.out
    have hw2 : w.heap.size ≤ w2.heap.size := HB2.out.size
    clear hR hb hl HC1 HZ0
    go_wp2_with fail
    go_loopg [3, 11] l.length (fun kq v3 v11 wr => ∃ (i : Int) (s : List S30), v11 = .int .i64 i ∧ 0 ≤ i ∧ i ≤ l.length ∧ Hid (i + kq = l.length) ∧ Hid ((s.length : Int) ≤ i) ∧ Hid (addr_plain.go k s (l.drop i.toNat) = some z) ∧ Hid (Kd.R k30 30 wr w2.heap.size (fun _ => True) v3 s.reverse) ∧ Hid (Below w2.heap.size w2 wr))
    case atStart => exact ⟨0, [], rfl, by omega, by omega, by unfold Hid; omega, by unfold Hid; simp, HZ.out, Kd.R_nil _ _ _ _ _, Below.refl _ _⟩
    case round =>
      clear HZ
      obtain ⟨i, s, rfl, i0, il, hk, hsl, HZ, HR, HB⟩ := hrel
      have hk1 := hk.out
      have hsl1 := hsl.out
      obtain ⟨A3, c3, h3⟩ := Kd.R_slice HR.out
      rw [List.length_reverse] at h3
      subst h3
      by_cases hil : i < l.length
      · have q1 : decide (i < (l.length : Int)) = true := decide_eq_true hil
        obtain ⟨p, hp⟩ : ∃ p, l[i.toNat]? = some p := ⟨_, List.getElem?_eq_getElem (h := by omega)⟩
        obtain ⟨ad, hA', hc0, hc1⟩ := at_T30 (Kd.C_below HS2.out HB.out) i i0 (by omega)
        subst hA'
        have hpe : rd_T30 l i = p := by unfold rd_T30; rw [List.getD_eq_getElem?_getD, hp]; rfl
        rw [hpe] at hc0 hc1
        have hdp : l.drop i.toNat = p :: l.drop (i.toNat + 1) := by
          obtain ⟨hh, e⟩ := List.getElem?_eq_some_iff.1 hp
          rw [List.drop_eq_getElem_cons hh, e]
        have HDP := mkHid hdp
        have hw1 : IntKind.i64.wrap (i + 1) = i + 1 := IntWalk.i64_in _ (by omega)
        have HRW : Hid (Kd.R k30 30 (wr.alloc (.cells #[.int .u32 p.f0, .int .i64 p.f1] 30)) w2.heap.size (fun _ => True) (.slice A3 s.length c3) s.reverse) := Kd.R_alloc HR.out _
        have HBW : Hid (Below w2.heap.size w2 (wr.alloc (.cells #[.int .u32 p.f0, .int .i64 p.f1] 30))) := HB.out.alloc HB.out.size _
        clear hp hdp hpe
        go_upto_region 6 with fail
        obtain ⟨W, hW⟩ : ∃ W, W = wr.alloc (.cells #[.int .u32 p.f0, .int .i64 p.f1] 30) := ⟨_, rfl⟩
        rw [← hW] at HRW HBW ⊢
        have p0 : W.cell? ⟨wr.heap.size, 0, none⟩ = some (.int .u32 p.f0) := by rw [hW]; go_simp
        have p1 : W.cell? ⟨wr.heap.size, 1, none⟩ = some (.int .i64 p.f1) := by rw [hW]; go_simp
        have hWs : wr.heap.size < W.heap.size := by rw [hW]; simp
        clear hW hc0 hc1 HR HB
        obtain ⟨n, hn⟩ : ∃ n : Nat, n = s.length := ⟨_, rfl⟩
        rw [← hn] at HRW ⊢
        obtain ⟨m, hm⟩ : ∃ m : Int, m = n := ⟨_, rfl⟩
        rw [← hm]
        go_cut [27] (fun v27 wc => ∃ b : Bool, v27 = .bool b ∧ Hid ((if b = true then addr_plain.go k s (l.drop (i.toNat + 1)) else (addr_plain.up k s.length (p :: s)).bind fun z' => addr_plain.go k z' (l.drop (i.toNat + 1))) = some z) ∧ Hid (Kd.R k30 30 wc w2.heap.size (fun _ => True) (.slice A3 n c3) s.reverse) ∧ Hid (Below w2.heap.size w2 wc) ∧ wc.cell? ⟨wr.heap.size, 0, none⟩ = some (.int .u32 p.f0) ∧ wc.cell? ⟨wr.heap.size, 1, none⟩ = some (.int .i64 p.f1) ∧ wr.heap.size < wc.heap.size)
        case first =>
          cases s with
          | nil =>
            have q2 : decide (m > 0) = false := decide_eq_false (by simp at hn; omega)
            go_quiet (fail)
            go_wp2_with fail
            go_meet
            case rel =>
              refine ⟨false, rfl, ?_, Kd.R_drewN HRW.out _, pw_below_drewN HBW.out _, by go_simp, by go_simp, hWs⟩
              have := HZ.out
              rw [HDP.out] at this
              exact this
          | cons y s =>
            have q2 : decide (m > 0) = true := decide_eq_true (by simp at hn; omega)
            have hZ := HZ.out
            rw [HDP.out] at hZ
            obtain ⟨b, hb, hZ⟩ := Option.bind_eq_some_iff.mp hZ
            have HCB := mkHid hb
            have HZB : Hid ((if b = true then addr_plain.go k (y :: s) (l.drop (i.toNat + 1)) else (addr_plain.up k (s.length + 1) (p :: y :: s)).bind fun z' => addr_plain.go k z' (l.drop (i.toNat + 1))) = some z) := hZ
            clear hb hZ HZ
            obtain ⟨g, rfl⟩ := ownP_at HRW.out (by simp)
            have hn1 : n = s.length + 1 := hn
            have hw2' : IntKind.i64.wrap (m - 1) = m - 1 := IntWalk.i64_in _ (by omega)
            have m0 : 0 ≤ m - 1 := by omega
            have m1 : m - 1 < (n : Int) := by omega
            have m2 : 1 ≤ m := by omega
            have m3 : m ≤ (n : Int) := by omega
            have hd : W.cell? ⟨g, (m.toNat - 1) * 2, none⟩ = some (.int .u32 y.f0) ∧ W.cell? ⟨g, (m.toNat - 1) * 2 + 1, none⟩ = some (.int .i64 y.f1) := own_cell HRW.out (show (y :: s).reverse[(m.toNat - 1)]? = some y by
              have : (m.toNat - 1) = s.length := by omega
              rw [this, List.reverse_cons, List.getElem?_append_right (by simp)]; simp) rfl
            obtain ⟨d0, d1⟩ := hd
            have HM := mkHid hm
            have HN := mkHid hn1
            clear hm hn hn1
            go_region_held3 (fun w' => w'.cell? ⟨g, (m.toNat - 1) * 2, none⟩ = some (.int .u32 y.f0) ∧ w'.cell? ⟨g, (m.toNat - 1) * 2 + 1, none⟩ = some (.int .i64 y.f1) ∧ w'.cell? ⟨wr.heap.size, 0, none⟩ = some (.int .u32 p.f0) ∧ w'.cell? ⟨wr.heap.size, 1, none⟩ = some (.int .i64 p.f1)) (go_keep)
              (first | (go_at_call 19; refine (con_keep y p b HCB.out g ((m.toNat - 1) * 2) wr.heap.size _ ?_ ?_ ?_ ?_).mono ?_; (go_simp); (go_simp); (go_simp); (go_simp); rintro e w' ⟨rfl, ⟨k0, k1, k2, k3⟩, hb⟩))
            all_goals
              have HB3 : Hid (Below W.heap.size W w') := below_step (by repeat (first | exact Below.refl _ _ | apply pw_below_drewN | apply below_drew)) hb
              clear hb d0 d1 p0 p1
              go_wp2_with fail
              go_meet
              case rel =>
                exact ⟨b, rfl, HZB.out, Kd.R_below HRW.out HB3.out, HBW.out.trans (HB3.out.mono HBW.out.size), k2, k3, Nat.lt_of_lt_of_le hWs HB3.out.size⟩
        case rest =>
          clear HRW HBW p0 p1 HZ hWs
          obtain ⟨b, rfl, HZ, HRW, HBW, p0, p1, hws⟩ := hcut
          cases b with
          | true =>
            go_wp2_with fail
            go_roundg (l.length - i.toNat - 1)
            case measure => omega
            case rel => exact ⟨i + 1, s, rfl, by omega, by omega, by unfold Hid; omega, by unfold Hid; omega, by rw [show (i + 1).toNat = i.toNat + 1 by omega]; exact HZ.out, by rw [← hn]; exact HRW.out, HBW.out⟩
          | false =>
            have hns : n ≤ 1000000 := by omega
            have HN := mkHid hn
            clear hn hm
            go_wp2_with (at_builtin; refine Kd.R_append k30 (w0 := w2) w2.heap.size ?a1 (.tmp 28) (.tmp 30) 22 30 (.agg #[.int .u32 0, .int .i64 0]) 16 ?a2 ?a3 ?a4 ?a5 ?a6 ?a7 (.slice A3 n c3) s.reverse p [.int .u32 p.f0, .int .i64 p.f1] (fun _ => True) (fun _ => False) ?a8 ?a9 ?aP ?aE ?aF ?aO ?aB ?aS ?aL ?_; (case a1 => rfl); (case a2 => rfl); (case a3 => exact Try.underlying22); (case a4 => exact infoP); (case a5 => rfl); (case a6 => decide); (case a7 => omega); (case a8 => rfl); (case a9 => rfl); (case aP => exact k30_mkM _ _ _ p); (case aE => exact fun _ h => h.elim); (case aF => exact fun _ _ => trivial); (case aO => exact HRW.out); (case aB => exact HBW.out); (case aS => exact HBW.out.size); (case aL => rw [List.length_reverse, ← HN.out]; omega); intro v1 w3 hR3 hB3 _ _; rw [← List.reverse_cons] at hR3; obtain ⟨A4, c4, h4⟩ := Kd.R_slice hR3; obtain ⟨n4, hn4⟩ : ∃ n4 : Nat, n4 = (p :: s).reverse.length := ⟨_, rfl⟩; rw [← hn4] at h4; subst h4)
            have HR3 := mkHid hR3
            have HB3 := mkHid hB3
            rw [List.length_reverse] at hn4
            have hn5 : n4 = s.length + 1 := hn4
            have hn6 : (n4 : Int) ≤ i + 1 := by have := HN.out; omega
            have HN4 := mkHid hn4
            clear hR3 hB3 HRW HBW p0 p1 hn4 HN hns
            have hno : ∀ (t : List S30) (r : List S30), Hid ((addr_plain.up k (t.length - 1) t).bind (fun z' => addr_plain.go k z' r) = some z) → t.length ≤ 1 → addr_plain.go k t r = some z := by
              intro t r ht hl
              have := ht.out
              match t, hl with
              | [], _ => exact this
              | [y], _ => exact this
            have HNO := mkHid hno
            clear hno
            go_loopg [3, 6] n4 (fun kq v3 v6 wx => ∃ (t : List S30) (A : Option Addr) (n c : Nat) (m : Int), v3 = .slice A n c ∧ v6 = .int .i64 m ∧ m = n ∧ (n : Int) ≤ i + 1 ∧ n ≤ kq ∧ Hid (n = t.length) ∧ Hid ((addr_plain.up k (t.length - 1) t).bind (fun z' => addr_plain.go k z' (l.drop (i.toNat + 1))) = some z) ∧ Hid (Kd.R k30 30 wx w2.heap.size (fun _ => True) (.slice A n c) t.reverse) ∧ Hid (Below w2.heap.size w2 wx))
            case atStart => exact ⟨p :: s, A4, n4, c4, n4, by first | rfl | (rw [hn5]; rfl) | (simp [hn5]; done), by first | rfl | (rw [hn5]; rfl) | (simp [hn5]; done), rfl, hn6, Nat.le_refl _, HN4.out, HZ.out, HR3.out, HB3.out⟩
            case round =>
              clear HR3 HB3 HZ hn6 hn5 HN4
              obtain ⟨t, A, n, c, m, rfl, rfl, hm, hni, hnk, hn, HZ, HR, HB⟩ := hrel
              have hn1 := hn.out
              by_cases hn2 : 1 < n
              · obtain ⟨y, x, r, rfl⟩ : ∃ y x r, t = y :: x :: r := by
                  match t, hn1 with
                  | [], h => simp at h; omega
                  | [y], h => simp at h; omega
                  | y :: x :: r, _ => exact ⟨y, x, r, rfl⟩
                have hl2 : n = r.length + 2 := hn1
                have hZ : ((addr_sister.f k x.f0 x.f1 y.f0 y.f1).bind fun b => if b = true then addr_plain.up k r.length (⟨x.f0, wrap64 (x.f1 - 1)⟩ :: r) else some (y :: x :: r)).bind (fun z' => addr_plain.go k z' (l.drop (i.toNat + 1))) = some z := HZ.out
                obtain ⟨z1, hz1, hz2⟩ := Option.bind_eq_some_iff.mp hZ
                obtain ⟨b, hb, hz1⟩ := Option.bind_eq_some_iff.mp hz1
                have HSB := mkHid hb
                have q2 : decide (m > 1) = true := decide_eq_true (by omega)
                obtain ⟨g, rfl⟩ := ownP_at HR.out (by simp)
                have hwa : IntKind.i64.wrap (m - 1) = m - 1 := IntWalk.i64_in _ (by omega)
                have hwb : IntKind.i64.wrap (m - 2) = m - 2 := IntWalk.i64_in _ (by omega)
                have m0 : 0 ≤ m - 1 := by omega
                have m1 : m - 1 < (n : Int) := by omega
                have m2 : 1 ≤ m := by omega
                have m3 : m ≤ (n : Int) := by omega
                have m4 : 0 ≤ m - 2 := by omega
                have m5 : m - 2 < (n : Int) := by omega
                have m6 : 2 ≤ m := by omega
                have hxx : (y :: x :: r).reverse[(m - 2).toNat]? = some x := by
                  have : (m - 2).toNat = r.length := by omega
                  rw [this]; simp [List.getElem?_append_left, List.getElem?_append_right]
                have hyy : (y :: x :: r).reverse[m.toNat - 1]? = some y := by
                  have : m.toNat - 1 = r.length + 1 := by omega
                  rw [this]; simp [List.getElem?_append_left, List.getElem?_append_right]
                have hd : wr.cell? ⟨g, (m - 2).toNat * 2, none⟩ = some (.int .u32 x.f0) ∧ wr.cell? ⟨g, (m - 2).toNat * 2 + 1, none⟩ = some (.int .i64 x.f1) := own_cell HR.out hxx rfl
                have hd' : wr.cell? ⟨g, (m.toNat - 1) * 2, none⟩ = some (.int .u32 y.f0) ∧ wr.cell? ⟨g, (m.toNat - 1) * 2 + 1, none⟩ = some (.int .i64 y.f1) := own_cell HR.out hyy rfl
                obtain ⟨d0, d1⟩ := hd
                obtain ⟨d2, d3⟩ := hd'
                have HXX := mkHid hxx
                have HL2 := mkHid hl2
                have HM := mkHid hm
                have HZ1 := mkHid hz1
                have HZ2 := mkHid hz2
                clear hxx hyy hl2 hm hz1 hz2 hZ hb hn1
                go_upto_region 9 with fail
                cases b with
                | false =>
                  go_region_held3 (fun w' => w'.cell? ⟨g, (m - 2).toNat * 2, none⟩ = some (.int .u32 x.f0) ∧ w'.cell? ⟨g, (m - 2).toNat * 2 + 1, none⟩ = some (.int .i64 x.f1) ∧ w'.cell? ⟨g, (m.toNat - 1) * 2, none⟩ = some (.int .u32 y.f0) ∧ w'.cell? ⟨g, (m.toNat - 1) * 2 + 1, none⟩ = some (.int .i64 y.f1)) (go_keep)
                    (first | (go_at_call 46; refine (sis_keep k x y false HSB.out g ((m - 2).toNat * 2) ((m.toNat - 1) * 2) _ ?_ ?_ ?_ ?_).mono ?_; (go_simp); (go_simp); (go_simp); (go_simp); rintro e w' ⟨rfl, ⟨k0, k1, k2, k3⟩, hb⟩))
                  all_goals
                    have HB3 : Hid (Below wr.heap.size wr w') := below_step (by repeat (first | exact Below.refl _ _ | apply pw_below_drewN | apply below_drew)) hb
                    clear hb d0 d1 d2 d3
                    have e1 : y :: x :: r = z1 := Option.some.inj HZ1.out
                    have HZ3 : Hid (addr_plain.go k (y :: x :: r) (l.drop (i.toNat + 1)) = some z) := by unfold Hid; rw [e1]; exact HZ2.out
                    clear e1
                    go_wp2_with fail
                    go_roundg (l.length - i.toNat - 1)
                    case measure => omega
                    case rel => exact ⟨i + 1, y :: x :: r, rfl, by omega, by omega, by unfold Hid; omega, by have := hn.out; unfold Hid; omega, by rw [show (i + 1).toNat = i.toNat + 1 by omega]; exact HZ3.out, Kd.R_below HR.out HB3.out, HB.out.trans (HB3.out.mono HB.out.size)⟩
                | true =>
                  have hnc : n ≤ c := (own_cells HR.out).choose_spec.2.2.2.1
                  have hcut := cut_to (P := Try.prog) 22 30 .i64 Try.underlying22 HI.out (some ⟨g, 0, none⟩) n c (m - 1) (by omega) (by omega) hnc
                  rw [show (m - 1).toNat = m.toNat - 1 by omega] at hcut
                  have m7 : m - 2 < ((m.toNat - 1 : Nat) : Int) := by omega
                  have hfz := fun o => own_frozen HR.out o
                  go_region_held3 (fun w' => w'.cell? ⟨g, (m - 2).toNat * 2, none⟩ = some (.int .u32 x.f0) ∧ w'.cell? ⟨g, (m - 2).toNat * 2 + 1, none⟩ = some (.int .i64 x.f1) ∧ w'.cell? ⟨g, (m.toNat - 1) * 2, none⟩ = some (.int .u32 y.f0) ∧ w'.cell? ⟨g, (m.toNat - 1) * 2 + 1, none⟩ = some (.int .i64 y.f1)) (go_keep)
                    (first | (go_at_call 46; refine (sis_keep k x y true HSB.out g ((m - 2).toNat * 2) ((m.toNat - 1) * 2) _ ?_ ?_ ?_ ?_).mono ?_; (go_simp); (go_simp); (go_simp); (go_simp); rintro e w' ⟨rfl, ⟨k0, k1, k2, k3⟩, hb⟩))
                  all_goals
                    have HB3 : Hid (Below wr.heap.size wr w') := below_step (by repeat (first | exact Below.refl _ _ | apply pw_below_drewN | apply below_drew)) hb
                    have HR3 := mkHid (Kd.R_below HR.out HB3.out)
                    have HBW := mkHid (HB.out.trans (HB3.out.mono HB.out.size))
                    have hfw : w'.frozen? ⟨g, (m - 2).toNat * 2 + 1, none⟩ = false := own_frozen HR3.out _
                    clear hb d0 d1 d2 d3 hfz k0 k2 k3
                    have e1 : addr_plain.up k r.length (⟨x.f0, wrap64 (x.f1 - 1)⟩ :: r) = some z1 := HZ1.out
                    have HZ3 : Hid ((addr_plain.up k ((⟨x.f0, wrap64 (x.f1 - 1)⟩ :: r : List S30).length - 1) (⟨x.f0, wrap64 (x.f1 - 1)⟩ :: r)).bind (fun z' => addr_plain.go k z' (l.drop (i.toNat + 1))) = some z) := by
                      unfold Hid
                      rw [show (⟨x.f0, wrap64 (x.f1 - 1)⟩ :: r : List S30).length - 1 = r.length from rfl, e1]
                      exact HZ2.out
                    have hm1 : m.toNat - 1 = r.length + 1 := by have := HM.out; have := HL2.out; omega
                    have hrr := own_take (m := m.toNat - 1) HR3.out (by have := HM.out; omega)
                    have hxr : ((y :: x :: r).reverse.take (m.toNat - 1))[(m - 2).toNat]? = some x := by
                      rw [List.getElem?_take_of_lt (by have := HM.out; have := HL2.out; omega)]; exact HXX.out
                    obtain ⟨hR5, hB5⟩ := own_bits hrr hxr (wrap64 (x.f1 - 1)) HBW.out
                    have hset : ((y :: x :: r).reverse.take (m.toNat - 1)).set (m - 2).toNat ⟨x.f0, wrap64 (x.f1 - 1)⟩ = (⟨x.f0, wrap64 (x.f1 - 1)⟩ :: r).reverse := by
                      have h1 : (y :: x :: r).reverse.take (m.toNat - 1) = r.reverse ++ [x] := by
                        rw [hm1, List.reverse_cons, List.reverse_cons, List.take_append_of_le_length (by simp), List.take_of_length_le (by simp)]
                      have h2 : (m - 2).toNat = r.reverse.length := by have := HM.out; have := HL2.out; rw [List.length_reverse]; omega
                      rw [h1, h2, List.set_append_right _ _ (Nat.le_refl _), Nat.sub_self, List.reverse_cons]; rfl
                    rw [hset] at hR5
                    have HR5 := mkHid hR5
                    have HB5 := mkHid hB5
                    have hm2 : m.toNat - 1 = (⟨x.f0, wrap64 (x.f1 - 1)⟩ :: r : List S30).length := hm1
                    have HM2 := mkHid hm2
                    have hm3 : ((m.toNat - 1 : Nat) : Int) ≤ i + 1 := by have := HM.out; omega
                    have hm4 : m.toNat - 1 ≤ gk - 1 := by have := HM.out; omega
                    clear e1 hrr hxr hR5 hB5 hset hm2 hm1
                    go_wp2_with fail
                    go_roundg (gk - 1)
                    case measure => omega
                    case rel => exact ⟨⟨x.f0, wrap64 (x.f1 - 1)⟩ :: r, some ⟨g, 0, none⟩, m.toNat - 1, c, ((m.toNat - 1 : Nat) : Int), rfl, rfl, rfl, hm3, hm4, HM2.out, HZ3.out, HR5.out, HB5.out⟩
              · have q2 : decide (m > 1) = false := decide_eq_false (by omega)
                have hz := HNO.out t _ HZ (by omega)
                have HZ2 := mkHid hz
                clear hz hn1 hm
                go_upto_region 9 with fail
                go_quiet (fail)
                go_wp2_with fail
                go_roundg (l.length - i.toNat - 1)
                case measure => omega
                case rel => exact ⟨i + 1, t, rfl, by omega, by omega, by unfold Hid; omega, by have := hn.out; unfold Hid; omega, by rw [show (i + 1).toNat = i.toNat + 1 by omega]; exact HZ2.out, Kd.R_drewN HR.out _, pw_below_drewN HB.out _⟩
      · have q1 : decide (i < (l.length : Int)) = false := decide_eq_false (by omega)
        have hall : l.drop i.toNat = [] := List.drop_eq_nil_of_le (by omega)
        have hz : s = z := by have := HZ.out; rw [hall] at this; cases s <;> exact Option.some.inj this
        subst hz
        go_wp2_with fail
        go_ret
        exact ⟨.slice A3 s.length c3, rfl, Kd.R_lower HR.out hw2, HB2.out.trans (HB.out.mono hw2)⟩
  · cases h

end Go.Proofs.Ytckffheolnmcnaa.P

end
section
namespace Go.Proofs
open Go.Shelf
def Try.lays156_ren : Go.Shelf.Ren := ⟨fun | 156 => 39 | 165 => 47 | 166 => 48 | 169 => 49 | 240 => 55 | 241 => 56 | 276 => 60 | 277 => 61 | n => n, fun | 31 => 54 | 9 => 9 | 3 => 3 | 4 => 4 | 0 => 0 | 20 => 20 | 72 => 68 | 76 => 72 | 70 => 66 | 37 => 65 | 75 => 71 | 127 => 80 | 164 => 85 | 5 => 5 | 80 => 74 | n => n, fun | n => n⟩
theorem Try.lays156 : Go.Proofs.Lays.n156 Try.prog Try.lays156_ren := {
  mixed := by kernel_rfl
  f156 := Try.func39.trans (congrArg some (by kernel_rfl))
  f165 := Try.func47.trans (congrArg some (by kernel_rfl))
  f166 := Try.func48.trans (congrArg some (by kernel_rfl))
  f169 := Try.func49.trans (congrArg some (by kernel_rfl))
  f240 := Try.func55.trans (congrArg some (by kernel_rfl))
  f241 := Try.func56.trans (congrArg some (by kernel_rfl))
  f276 := Try.func60.trans (congrArg some (by kernel_rfl))
  f277 := Try.func61.trans (congrArg some (by kernel_rfl))
  t0 := Try.underlying0
  a0 := Try.isAgg0
  z0 := Try.sizeOf0
  v0 := Try.zeroValue0
  t3 := Try.underlying3
  a3 := Try.isAgg3
  z3 := Try.sizeOf3
  v3 := Try.zeroValue3
  t4 := Try.underlying4
  a4 := Try.isAgg4
  z4 := Try.sizeOf4
  v4 := Try.zeroValue4
  t9 := Try.underlying9
  a9 := Try.isAgg9
  z9 := Try.sizeOf9
  v9 := Try.zeroValue9
  t20 := Try.underlying20
  a20 := Try.isAgg20
  z20 := Try.sizeOf20
  v20 := Try.zeroValue20
  t31 := Try.underlying54
  a31 := Try.isAgg54
  z31 := Try.sizeOf54
  v31 := Try.zeroValue54
  t37 := Try.underlying65
  a37 := Try.isAgg65
  z37 := Try.sizeOf65
  v37 := Try.zeroValue65
  t70 := Try.underlying66
  a70 := Try.isAgg66
  z70 := Try.sizeOf66
  v70 := Try.zeroValue66
  t72 := Try.underlying68
  a72 := Try.isAgg68
  z72 := Try.sizeOf68
  v72 := Try.zeroValue68
  t75 := Try.underlying71
  a75 := Try.isAgg71
  z75 := Try.sizeOf71
  v75 := Try.zeroValue71
  t76 := Try.underlying72
  a76 := Try.isAgg72
  z76 := Try.sizeOf72
  v76 := Try.zeroValue72
  t127 := Try.underlying80
  a127 := Try.isAgg80
  z127 := Try.sizeOf80
  v127 := Try.zeroValue80
  t164 := Try.underlying85
  a164 := Try.isAgg85
  z164 := Try.sizeOf85
  v164 := Try.zeroValue85 }
theorem Try.Builder_Extra_156 : Builder.Extra Try.prog Try.lays156_ren := {
  sizeBuilder := by kernel_rfl
  liesBuilder := by kernel_rfl
  t5 := Try.underlying5
  a5 := Try.isAgg5
  z5 := Try.sizeOf5
  v5 := Try.zeroValue5
  infoByte := by kernel_rfl
  cellsByte := by kernel_rfl
  sizeByte := by kernel_rfl
  neB5 := by decide }
open Go.RowKit in
/-- No element: the empty string; the world is as it was. (Whatever the slice's address and capacity: a nil slice too.) (LAID: no walk: one application.) -/
theorem Try.strings_Join_none (a : Option Addr) (c : Nat) (sep : ByteArray) (w : World) :
    Calls Try.prog 39 #[.slice a 0 c, .string sep] w fun e w' => e = .returned (.string ⟨#[]⟩) ∧ w' = w := Any.strings_Join_none Try.lays156 Try.Builder_Extra_156 a c sep w
open Go.RowKit in
/-- strings.Join: "Join concatenates the elements of its first argument to create a single string. The separator string sep is placed between elements in the resulting string.": HOWEVER MANY ELEMENTS. Below the heap's end the world is as it was. (LAID: no walk: one application.) -/
theorem Try.strings_Join (bk o c : Nat) (xs : List ByteArray) (sep : ByteArray) (w : World) (hcells : ∀ (j : Nat) x, xs[j]? = some x → w.cell? ⟨bk, o + j, none⟩ = some (.string x)) (hbk : bk < w.heap.size) (hN : xs.length ≤ 140737488355328) (hcap : xs.length ≤ c) (hlen : (Lib.join (xs.map (·.data.toList)) sep.data.toList).length ≤ 140737488355328) :
    Calls Try.prog 39 #[.slice (some ⟨bk, o, none⟩) xs.length c, .string sep] w fun e w' => e = .returned (.string ⟨(Lib.join (xs.map (·.data.toList)) sep.data.toList).toArray⟩) ∧ Below w.heap.size w w' := Any.strings_Join Try.lays156 Try.Builder_Extra_156 bk o c xs sep w hcells hbk hN hcap hlen
def Try.lays215_ren : Go.Shelf.Ren := ⟨fun | 215 => 54 | n => n, fun | 3 => 3 | 4 => 4 | n => n, fun | n => n⟩
theorem Try.lays215 : Go.Proofs.Lays.n215 Try.prog Try.lays215_ren := {
  mixed := by kernel_rfl
  f215 := Try.func54.trans (congrArg some (by kernel_rfl))
  t3 := Try.underlying3
  a3 := Try.isAgg3
  z3 := Try.sizeOf3
  v3 := Try.zeroValue3
  t4 := Try.underlying4
  a4 := Try.isAgg4
  z4 := Try.sizeOf4
  v4 := Try.zeroValue4 }
open Go.RowKit in
/-- cmp.isNaN at int: 'x != x': false. (LAID: no walk: one application.) -/
theorem Try.cmp_isNaN_int (x : Int) (w : World) :
    Calls Try.prog 54 #[.int .i64 x] w fun e w' => e = .returned (.bool false) ∧ w' = w := Any.cmp_isNaN_int Try.lays215 x w
def Try.lays122_ren : Go.Shelf.Ren := ⟨fun | 122 => 45 | 215 => 54 | n => n, fun | 3 => 3 | 4 => 4 | n => n, fun | n => n⟩
theorem Try.lays122 : Go.Proofs.Lays.n122 Try.prog Try.lays122_ren := {
  mixed := by kernel_rfl
  f122 := Try.func45.trans (congrArg some (by kernel_rfl))
  f215 := Try.func54.trans (congrArg some (by kernel_rfl))
  t3 := Try.underlying3
  a3 := Try.isAgg3
  z3 := Try.sizeOf3
  v3 := Try.zeroValue3
  t4 := Try.underlying4
  a4 := Try.isAgg4
  z4 := Try.sizeOf4
  v4 := Try.zeroValue4 }
open Go.RowKit in
/-- cmp.Compare at int: "Compare returns -1 if x is less than y, 0 if x equals y, +1 if x is greater than y.": IT RETURNS 'Lib.compareInt x y'; the world is as it was. (LAID: no walk: one application.) -/
theorem Try.cmp_Compare_int (x y : Int) (w : World) :
    Calls Try.prog 45 #[.int .i64 x, .int .i64 y] w fun e w' => e = .returned (.int .i64 (Lib.compareInt x y)) ∧ w' = w := Any.cmp_Compare_int Try.lays122 x y w
end Go.Proofs

end
section
namespace Go.Proofs.Ytckffheolnmcnaa.P
open Go.RowKit Go.Proofs.YtckffheolnmcnaaW.PrintWords Go.Proofs.YtckffheolnmcnaaW.PrintLast Go.Proofs.YtckffheolnmcnaaW.PrintMore
attribute [local go_sem] max2_int min2_int max_two min_two max_three min_three max_four min_four   -- for this text's walks alone
set_option linter.unusedVariables false
set_option linter.unusedSimpArgs false

attribute [local go_sem high] eqA30
def addr_Plain.f (k : Nat) (l0 : List (S30)) : Option ((List (S30)) × Int) := (addr_check.f k l0).bind fun t130 => (if t130 = 0 then ((addr_plain.f k l0).bind fun t131 => (some (t131, 0))) else (some (([] : List (S30)), t130)))
theorem addr_Plain.mono : ∀ a0 k, LeO (addr_Plain.f k a0) (addr_Plain.f (k + 1) a0) := by
  intro a0 k
  unfold addr_Plain.f
  repeat' first
      | (with_reducible exact addr_check.mono _ _)
      | (with_reducible exact addr_plain.mono _ _)
      | (with_reducible exact LeO.refl _)
      | (with_reducible exact LeO.none _)
      | (with_reducible refine LeO.ite ?_ ?_)
      | (with_reducible refine LeO.bind ?_ (fun _ => ?_))
      | exact addr_check.mono _ _
      | exact addr_plain.mono _ _
      | exact LeO.none _
      | refine LeO.ite ?_ ?_
      | refine LeO.bind ?_ (fun _ => ?_)
set_option maxHeartbeats 8000000 in
set_option maxRecDepth 100000 in
theorem addr_Plain.calls (k : Nat) (A0 : Option Addr) (c0 : Nat) (l0 : List (S30)) (r1 : List (S30)) (r2 : Int) (w : World) (hr0 : Kd.C k30 w A0 l0.length l0) (hc0 : l0.length ≤ c0) (h : addr_Plain.f k l0 = some (r1, r2)) :
    Calls Try.prog 9 #[.slice A0 l0.length c0] w fun e w' => ∃ v0_ : Value, e = .returned (.tuple #[v0_, .int .i64 r2]) ∧ Kd.R k30 30 w' w.heap.size (fun _ => True) v0_ r1 ∧ Below w.heap.size w w' := by
  have HR0 := Aside0.mk hr0
  have HC0 := Aside0.mk hc0
  clear hr0 hc0
  have HB := Aside0.mk (Below.refl w.heap.size w)
  have H : ((addr_check.f k l0).bind fun t130 => (if t130 = 0 then ((addr_plain.f k l0).bind fun t131 => (some (t131, 0))) else (some (([] : List (S30)), t130)))) = some (r1, r2) := h
  clear h
  replace H := Option.bind_eq_some_iff.mp H
  obtain ⟨t130, A20, H⟩ := H
  replace H : (if t130 = 0 then ((addr_plain.f k l0).bind fun t131 => (some (t131, 0))) else (some (([] : List (S30)), t130))) = some (r1, r2) := H
  have A2 := Aside0.mk A20
  clear A20
  by_cases c3 : t130 = 0
  · rw [if_pos c3] at H
    have c3b0 : (t130 == 0) = true := beq_iff_eq.mpr c3
    have c3b1 : (t130 != 0) = false := bne_eq_false_iff_eq.mpr c3
    clear c3
    replace H := Option.bind_eq_some_iff.mp H
    obtain ⟨t131, A40, H⟩ := H
    replace H : (some (t131, 0)) = some (r1, r2) := H
    have A4 := Aside0.mk A40
    clear A40
    simp only [Option.some.injEq, Prod.mk.injEq] at H
    obtain ⟨rfl, rfl⟩ := H
    go_enter Try.func9, Try.ntmps9
    go_wp2_with (first | ((with_reducible refine gate_callee (f := 30) rfl ?_); refine goesL_ (some 6) rfl rfl Try.func30 (by kernel_rfl) rfl #[.slice A0 l0.length c0] rfl (by (try simp only [List.map_toArray, List.map_cons, List.map_nil]); first | done | rfl | (simp only [List.length_drop, List.length_take]; rfl)) ?_; (with_reducible refine (addr_check.calls k _ _ l0 t130 _ ?side1 ?side2 A2.out).mono ?_); (case side1 => repeat (first | exact HR0.out | (with_reducible refine Kd.C_alloc ?_ _) | (with_reducible refine Kd.C_drewN ?_ _) | (with_reducible refine Kd.C_drew ?_))); (case side2 => exact HC0.out); rintro e w5 ⟨rfl, hb⟩; refine ⟨_, rfl, ?_⟩; have n0_ := Aside0.mk (below_step (by repeat (first | (with_reducible first | exact HB.out | apply below_alloc | apply pw_below_drewN | apply below_drew1) | exact HB.out)) hb); clear HB; have HB := n0_; clear n0_; (try clear hb); (try clear hb2); (try clear hk); (try clear hi)) | ((with_reducible refine gate_callee (f := 31) rfl ?_); refine goesL_ (some 11) rfl rfl Try.func31 (by kernel_rfl) rfl #[.slice A0 l0.length c0] rfl (by (try simp only [List.map_toArray, List.map_cons, List.map_nil]); first | done | rfl | (simp only [List.length_drop, List.length_take]; rfl)) ?_; (with_reducible refine (addr_plain.calls k _ _ l0 t131 _ ?side1 ?side2 A4.out).mono ?_); (case side1 => repeat (first | exact (Kd.C_below HR0.out HB.out) | (with_reducible refine Kd.C_alloc ?_ _) | (with_reducible refine Kd.C_drewN ?_ _) | (with_reducible refine Kd.C_drew ?_))); (case side2 => exact HC0.out); rintro e w6 ⟨v132, rfl, ho0, hb⟩; refine ⟨_, rfl, ?_⟩; have n0_ := Aside0.mk (Kd.R_lower ho0 (below_size (by repeat (first | (with_reducible first | exact HB.out | apply below_alloc | apply pw_below_drewN | apply below_drew1) | exact HB.out)))); have n1_ := Aside0.mk (below_step (by repeat (first | (with_reducible first | exact HB.out | apply below_alloc | apply pw_below_drewN | apply below_drew1) | exact HB.out)) hb); clear HB; have HO133 := n0_; have HB := n1_; clear n0_ n1_; (try clear hb); (try clear hb2); (try clear hk); (try clear hi); (try clear ho0)))
    go_ret2
    exact ⟨_, by first | rfl | (simp [errW_none, errW_some] <;> rfl) | (simp [*, errW_none, errW_some] <;> rfl), by (with_reducible repeat (first | apply Kd.R_alloc | apply Kd.R_drewN | apply Kd.R_drew)); exact HO133.out, by repeat (first | (with_reducible first | exact HB.out | apply below_alloc | apply pw_below_drewN | apply below_drew1) | exact HB.out)⟩
  · rw [if_neg c3] at H
    have c3b0 : (t130 == 0) = false := beq_eq_false_iff_ne.mpr c3
    have c3b1 : (t130 != 0) = true := bne_iff_ne.mpr c3
    simp only [Option.some.injEq, Prod.mk.injEq] at H
    obtain ⟨rfl, rfl⟩ := H
    go_enter Try.func9, Try.ntmps9
    go_wp2_with (first | ((with_reducible refine gate_callee (f := 30) rfl ?_); refine goesL_ (some 6) rfl rfl Try.func30 (by kernel_rfl) rfl #[.slice A0 l0.length c0] rfl (by (try simp only [List.map_toArray, List.map_cons, List.map_nil]); first | done | rfl | (simp only [List.length_drop, List.length_take]; rfl)) ?_; (with_reducible refine (addr_check.calls k _ _ l0 t130 _ ?side1 ?side2 A2.out).mono ?_); (case side1 => repeat (first | exact HR0.out | (with_reducible refine Kd.C_alloc ?_ _) | (with_reducible refine Kd.C_drewN ?_ _) | (with_reducible refine Kd.C_drew ?_))); (case side2 => exact HC0.out); rintro e w7 ⟨rfl, hb⟩; refine ⟨_, rfl, ?_⟩; have n0_ := Aside0.mk (below_step (by repeat (first | (with_reducible first | exact HB.out | apply below_alloc | apply pw_below_drewN | apply below_drew1) | exact HB.out)) hb); clear HB; have HB := n0_; clear n0_; (try clear hb); (try clear hb2); (try clear hk); (try clear hi)))
    go_ret2
    exact ⟨_, by first | rfl | (simp [errW_none, errW_some] <;> rfl) | (simp [*, errW_none, errW_some] <;> rfl), by first | exact Kd.R_nil _ _ _ _ _ | exact Kd.N_nil _ _ _ _ _ | exact Kd.V_nil _ _ _ _ _ | exact Kd.Q_nil _ _ _ _ _ | exact Kd.S_nil _ _ _ _ _, by repeat (first | (with_reducible first | exact HB.out | apply below_alloc | apply pw_below_drewN | apply below_drew1) | exact HB.out)⟩

def whirligigref01_Same.l0 : Nat → List (S30) → List (S30) → Int → Option (Bool)
  | 0, _, _, _ => none
  | k + 1, x0, x1, x5 => if x5 < (x0.length : Int) then (if 0 ≤ x5 then (if x5 < (x1.length : Int) then (if (!(((rd_T30 x0 x5).f0) == ((rd_T30 x1 x5).f0)) || (!(((rd_T30 x0 x5).f1) == ((rd_T30 x1 x5).f1)))) = true then (some false) else (whirligigref01_Same.l0 k x0 x1 (wrap64 (x5 + 1)))) else (none)) else (none)) else (some true)
def whirligigref01_Same.f (k : Nat) (l0 : List (S30)) (l1 : List (S30)) : Option (Bool) := if (l0.length : Int) = (l1.length : Int) then (whirligigref01_Same.l0 k l0 l1 0) else (some false)
theorem whirligigref01_Same.mono_l : ∀ k, (∀ y0 y1 y2, LeO (whirligigref01_Same.l0 k y0 y1 y2) (whirligigref01_Same.l0 (k + 1) y0 y1 y2))
  | 0 => fun _ _ _ r h => by simp [whirligigref01_Same.l0] at h
  | k + 1 => by
    have ih0 := whirligigref01_Same.mono_l k
    · intro y0 y1 y2
      unfold whirligigref01_Same.l0
      repeat' first
      | (with_reducible exact ih0 _ _ _)
      | (with_reducible exact LeO.refl _)
      | (with_reducible exact LeO.none _)
      | (with_reducible refine LeO.ite ?_ ?_)
      | (with_reducible refine LeO.bind ?_ (fun _ => ?_))
      | exact ih0 _ _ _
      | exact LeO.none _
      | refine LeO.ite ?_ ?_
      | refine LeO.bind ?_ (fun _ => ?_)
theorem whirligigref01_Same.mono : ∀ a0 a1 k, LeO (whirligigref01_Same.f k a0 a1) (whirligigref01_Same.f (k + 1) a0 a1) := by
  intro a0 a1 k
  have ih0 := whirligigref01_Same.mono_l k
  unfold whirligigref01_Same.f
  repeat' first
      | (with_reducible exact ih0 _ _ _)
      | (with_reducible exact LeO.refl _)
      | (with_reducible exact LeO.none _)
      | (with_reducible refine LeO.ite ?_ ?_)
      | (with_reducible refine LeO.bind ?_ (fun _ => ?_))
      | exact ih0 _ _ _
      | exact LeO.none _
      | refine LeO.ite ?_ ?_
      | refine LeO.bind ?_ (fun _ => ?_)
set_option maxHeartbeats 8000000 in
set_option maxRecDepth 100000 in
theorem whirligigref01_Same.calls (k : Nat) (A0 : Option Addr) (c0 : Nat) (l0 : List (S30)) (A1 : Option Addr) (c1 : Nat) (l1 : List (S30)) (r : Bool) (w : World) (hr0 : Kd.C k30 w A0 l0.length l0) (hc0 : l0.length ≤ c0) (hr1 : Kd.C k30 w A1 l1.length l1) (hc1 : l1.length ≤ c1) (h : whirligigref01_Same.f k l0 l1 = some r) :
    Calls Try.prog 12 #[.slice A0 l0.length c0, .slice A1 l1.length c1] w fun e w' => e = .returned (.bool r) ∧ Drawn0 w w' := by
  have hu30 := Try.underlying30
  have HR0 := Aside0.mk hr0
  have HC0 := Aside0.mk hc0
  clear hr0 hc0
  have HR1 := Aside0.mk hr1
  have HC1 := Aside0.mk hc1
  clear hr1 hc1
  have H : (if (l0.length : Int) = (l1.length : Int) then (whirligigref01_Same.l0 k l0 l1 0) else (some false)) = some r := h
  clear h
  by_cases c3 : (l0.length : Int) = (l1.length : Int)
  · rw [if_pos c3] at H
    have c3b0 : ((l0.length : Int) == (l1.length : Int)) = true := beq_iff_eq.mpr c3
    have c3b1 : ((l0.length : Int) != (l1.length : Int)) = false := bne_eq_false_iff_eq.mpr c3
    have c3b2 : (l0.length == l1.length) = true := by first | simpa using c3 | (simp at c3 ⊢; omega)
    clear c3
    have H' := Aside0.mk H
    clear H
    go_enter Try.func12, Try.ntmps12
    go_wp2
    repeat (go_quiet (fail); try go_wp2)
    go_loopg [5] k (fun kq v5 w' => ∃ (x5_1 : Int), v5 = .int .i64 x5_1 ∧ Aside0 (whirligigref01_Same.l0 kq l0 l1 x5_1 = some r) ∧ Aside0 (kq ≤ k) ∧ Drawn0 w w')
    case atStart => exact ⟨(0), (by first | rfl | (simp; done) | (simp [*]; done)), H', ⟨Nat.le_refl _⟩, by repeat (first | exact Drawn0.refl _ | apply Drawn0.step)⟩
    case round =>
      clear H'
      try clear c1
      try clear p2
      try clear c3
      try clear c3b0
      try clear c3b1
      try clear c3b2
      obtain ⟨x5_1, rfl, HA, HK1, ⟨m1, rfl⟩⟩ := hrel
      cases gk with
      | zero => exact absurd HA.out (by simp [whirligigref01_Same.l0])
      | succ k1 =>
        have H := HA.out
        clear HA
        simp only [whirligigref01_Same.l0] at H
        by_cases c4 : x5_1 < (l0.length : Int)
        · rw [if_pos c4] at H
          have c4b0 : decide (x5_1 < (l0.length : Int)) = true := decide_eq_true c4
          clear c4
          by_cases c5 : 0 ≤ x5_1
          · rw [if_pos c5] at H
            have c5b0 : decide (0 ≤ x5_1) = true := decide_eq_true c5
            clear c5
            by_cases c6 : x5_1 < (l1.length : Int)
            · rw [if_pos c6] at H
              have c6b0 : decide (x5_1 < (l1.length : Int)) = true := decide_eq_true c6
              clear c6
              by_cases c7 : (!(((rd_T30 l0 x5_1).f0) == ((rd_T30 l1 x5_1).f0)) || (!(((rd_T30 l0 x5_1).f1) == ((rd_T30 l1 x5_1).f1)))) = true
              · rw [if_pos c7] at H
                have c7b0 : (!(((rd_T30 l0 x5_1).f0) == ((rd_T30 l1 x5_1).f0)) || (!(((rd_T30 l0 x5_1).f1) == ((rd_T30 l1 x5_1).f1)))) = true := c7
                clear c7
                obtain rfl := Option.some.inj H
                have p134 : 0 ≤ (x5_1 : Int) := of_decide_eq_true (by first | (with_reducible assumption) | assumption)
                have q134 : x5_1 < (l0.length : Int) := of_decide_eq_true (by first | (with_reducible assumption) | assumption)
                obtain ⟨ad134, e134, hx134_0, hx134_1⟩ := at_T30 HR0.out x5_1 p134 q134
                cases e134
                replace p134 := eq_true p134
                replace q134 := eq_true q134
                have p135 : 0 ≤ (x5_1 : Int) := of_decide_eq_true (by first | (with_reducible assumption) | assumption)
                have q135 : x5_1 < (l1.length : Int) := of_decide_eq_true (by first | (with_reducible assumption) | assumption)
                obtain ⟨ad135, e135, hx135_0, hx135_1⟩ := at_T30 HR1.out x5_1 p135 q135
                cases e135
                replace p135 := eq_true p135
                replace q135 := eq_true q135
                go_wp2
                repeat (go_quiet (fail); try go_wp2)
                go_ret
                exact ⟨by first | rfl | (simp; done) | (simp [*]; done), by repeat (first | exact Drawn0.refl _ | apply Drawn0.step)⟩
              · rw [if_neg c7] at H
                have c7b0 : (!(((rd_T30 l0 x5_1).f0) == ((rd_T30 l1 x5_1).f0)) || (!(((rd_T30 l0 x5_1).f1) == ((rd_T30 l1 x5_1).f1)))) = false := by simpa using c7
                clear c7
                have H' := Aside0.mk H
                clear H
                have p134 : 0 ≤ (x5_1 : Int) := of_decide_eq_true (by first | (with_reducible assumption) | assumption)
                have q134 : x5_1 < (l0.length : Int) := of_decide_eq_true (by first | (with_reducible assumption) | assumption)
                obtain ⟨ad134, e134, hx134_0, hx134_1⟩ := at_T30 HR0.out x5_1 p134 q134
                cases e134
                replace p134 := eq_true p134
                replace q134 := eq_true q134
                have p135 : 0 ≤ (x5_1 : Int) := of_decide_eq_true (by first | (with_reducible assumption) | assumption)
                have q135 : x5_1 < (l1.length : Int) := of_decide_eq_true (by first | (with_reducible assumption) | assumption)
                obtain ⟨ad135, e135, hx135_0, hx135_1⟩ := at_T30 HR1.out x5_1 p135 q135
                cases e135
                replace p135 := eq_true p135
                replace q135 := eq_true q135
                go_wp2
                repeat (go_quiet (fail); try go_wp2)
                go_roundg k1
                case measure => have := HK1.out; omega
                case rel => exact ⟨(wrap64 (x5_1 + 1)), (by first | rfl | (simp; done) | (simp [*]; done)), H', ⟨by have := HK1.out; omega⟩, by repeat (first | exact Drawn0.refl _ | apply Drawn0.step)⟩
            · rw [if_neg c6] at H
              exact absurd H (by simp)
          · rw [if_neg c5] at H
            exact absurd H (by simp)
        · rw [if_neg c4] at H
          have c4b0 : decide (x5_1 < (l0.length : Int)) = false := decide_eq_false c4
          clear c4
          obtain rfl := Option.some.inj H
          go_wp2
          repeat (go_quiet (fail); try go_wp2)
          go_ret
          exact ⟨by first | rfl | (simp; done) | (simp [*]; done), by repeat (first | exact Drawn0.refl _ | apply Drawn0.step)⟩
  · rw [if_neg c3] at H
    have c3b0 : ((l0.length : Int) == (l1.length : Int)) = false := beq_eq_false_iff_ne.mpr c3
    have c3b1 : ((l0.length : Int) != (l1.length : Int)) = true := bne_iff_ne.mpr c3
    have c3b2 : (l0.length == l1.length) = false := by first | simpa using c3 | (simp at c3 ⊢; omega)
    obtain rfl := Option.some.inj H
    go_enter Try.func12, Try.ntmps12
    go_wp2
    repeat (go_quiet (fail); try go_wp2)
    go_ret
    exact ⟨by first | rfl | (simp; done) | (simp [*]; done), by repeat (first | exact Drawn0.refl _ | apply Drawn0.step)⟩

def addr_digits.f (a0 : Int) : Option ByteArray := if 0 ≤ a0 ∧ a0 ≤ 4294967295 then some ⟨(dig a0.toNat).toArray⟩ else none
set_option maxHeartbeats 400000 in
set_option maxRecDepth 100000 in
theorem addr_digits.any : ∀ (n : Nat), n ≤ 4294967295 → ∀ w : World,
    Calls Try.prog 38 #[.int .u32 n] w fun e w' => e = .returned (.string ⟨(dig n).toArray⟩) ∧ Below w.heap.size w w' := by
  intro n
  induction n using Nat.strongRecOn with
  | _ n ih =>
  intro hn w
  go_enter Try.func38, Try.ntmps38
  by_cases h10 : n < 10
  · have q1 : decide ((n : Int) < 10) = true := decide_eq_true (by omega)
    have e1 : IntKind.u32.wrap (48 + (n : Int)) = 48 + n := u32_in _ (by omega) (by omega)
    obtain ⟨D, hD⟩ : ∃ D, D = dig n := ⟨_, rfl⟩
    have hcv : ∀ W : World, W.cell? ⟨w.heap.size, 0, none⟩ = some (.int .u8 (48 + (n : Int))) → (convert 65 9 (.slice (some ⟨w.heap.size, 0, none⟩) 1 1)).run Try.prog W = .ok (.string ⟨D.toArray⟩) W := fun W h => by
      rw [conv1 W _ 1 _ h, byte_dig n h10, hD, dig_small n h10]
    go_wp2_with fail
    go_ret
    subst hD
    exact ⟨rfl, (Below.refl _ _).alloc (by omega) _⟩
  · have q1 : decide ((n : Int) < 10) = false := decide_eq_false (by omega)
    have e0 : (10 : Int) ≠ 0 := by decide
    have e1 : IntKind.u32.wrap ((n : Int) / 10) = ((n / 10 : Nat) : Int) := by rw [u32_in _ (by omega) (by omega)]; omega
    have e2 : IntKind.u32.wrap (48 + ((n % 10 : Nat) : Int)) = 48 + ((n % 10 : Nat) : Int) := u32_in _ (by omega) (by omega)
    have e3 : (n : Int) % 10 = ((n % 10 : Nat) : Int) := by omega
    have e8 : (n : Int).tmod 10 = ((n % 10 : Nat) : Int) := by rw [Int.tmod_eq_emod_of_nonneg (by omega)]; omega
    have e5 : (n : Int) / 10 = ((n / 10 : Nat) : Int) := by omega
    have e6 : IntKind.u8.wrap (48 + ((n % 10 : Nat) : Int)) = 48 + ((n % 10 : Nat) : Int) := by unfold IntKind.wrap; simp [IntKind.bits, IntKind.signed]; omega
    obtain ⟨q, hq⟩ : ∃ q, q = n / 10 := ⟨_, rfl⟩
    obtain ⟨r, hr⟩ : ∃ r, r = n % 10 := ⟨_, rfl⟩
    rw [← hq] at e1 e5
    rw [← hr] at e2 e3 e6 e8
    obtain ⟨D, hD⟩ : ∃ D : UInt8, D = 48 + UInt8.ofNat r := ⟨_, rfl⟩
    have hcv : ∀ (W : World) (g : Nat), W.cell? ⟨g, 0, none⟩ = some (.int .u8 (48 + (r : Int))) → (convert 65 9 (.slice (some ⟨g, 0, none⟩) 1 1)).run Try.prog W = .ok (.string ⟨#[D]⟩) W := fun W g h => by
      rw [conv1 W _ 1 _ h, byte_dig r (by omega), hD]
    have e7 : IntKind.u32.wrap (q : Int) = q := by rw [← e5] at e1; rw [← e5]; exact e1
    have IH : Hid (∀ w : World, Calls Try.prog 38 #[.int .u32 q] w fun e w' => e = .returned (.string ⟨(dig q).toArray⟩) ∧ Below w.heap.size w w') := fun w => ih q (by omega) (by omega) w
    have hdl : (dig q).length ≤ 4294967295 := by have := dig_len q; omega
    have HQ := mkHid hq
    have HR := mkHid hr
    have HD := mkHid hD
    clear ih hq hr hD
    go_wp2_with fail
    go_region_with (go_at_call 38; (try rw [e1]); (try rw [e5]); (try rw [e7]); with_reducible refine (IH.out _).mono ?_; rintro e w' ⟨rfl, hB⟩; (first | (have hc := cell_of_alloc hB; (try simp only [e8, e2, e6, e3] at hc)) | skip))
    all_goals
      go_wp2_with fail
      go_ret
      refine ⟨?_, ?_⟩
      · have he : (⟨(dig q).toArray⟩ : ByteArray) ++ ⟨#[D]⟩ = ⟨(dig n).toArray⟩ := by rw [dig_big n h10, ← HQ.out, ← HR.out, ← HD.out]; exact app_list (dig q) [D]
        exact congrArg (fun z => Ending.returned (Value.string z)) he
      · have h0 : Below w.heap.size w w := Below.refl _ _
        first
          | exact below_tr h0 hB
          | exact (below_tr h0 hB).alloc (below_tr h0 hB).size _
          | exact below_tr (h0.alloc (Nat.le_refl _) _) hB
theorem addr_digits.calls (a0 : Int) (r : ByteArray) (w : World) (h : addr_digits.f a0 = some r) :
    Calls Try.prog 38 #[.int .u32 a0] w fun e w' => e = .returned (.string r) ∧ Below w.heap.size w w' := by
  unfold addr_digits.f at h
  split at h
  · rename_i hh
    obtain rfl := Option.some.inj h
    obtain ⟨n, rfl⟩ := Int.eq_ofNat_of_zero_le hh.1
    exact addr_digits.any n (by omega) w
  · exact absurd h (by simp)

def strings_Join.f (l0 : List ByteArray) (a1 : ByteArray) : Option ByteArray := if l0.length ≤ 140737488355328 ∧ (Lib.join (l0.map (·.data.toList)) a1.data.toList).length ≤ 140737488355328 then some ⟨(Lib.join (l0.map (·.data.toList)) a1.data.toList).toArray⟩ else none
theorem strings_Join.calls (A0 : Option Addr) (c0 : Nat) (l0 : List ByteArray) (a1 : ByteArray) (r : ByteArray) (w : World) (hr0 : Kd.C Kd.string w A0 l0.length l0) (hc0 : l0.length ≤ c0) (h : strings_Join.f l0 a1 = some r) :
    Calls Try.prog 39 #[.slice A0 l0.length c0, .string a1] w fun e w' => e = .returned (.string r) ∧ Below w.heap.size w w' := by
  unfold strings_Join.f at h
  split at h
  · rename_i hh
    obtain ⟨hh0, hh⟩ := hh
    obtain rfl := Option.some.inj h
    by_cases h0 : l0.length = 0
    · have e0 : l0 = [] := List.length_eq_zero_iff.1 h0
      subst e0
      refine (Try.strings_Join_none A0 c0 a1 w).mono ?_
      rintro e w' ⟨rfl, rfl⟩
      refine ⟨?_, Below.refl _ _⟩
      simp [Lib.join]
    · obtain ⟨b, o, rfl, hb, hc⟩ := C_at hr0 (by decide) (by omega)
      refine Try.strings_Join b o c0 l0 a1 w (fun j x hj => ?_) hb hh0 hc0 hh
      obtain ⟨c, _, hk, hcc⟩ := hc j x hj
      have hk' : c = [.string x] := hk
      subst hk'
      have := hcc 0 _ rfl
      simpa [Kd.string, Kd.scalar] using this
  · exact absurd h (by simp)

def addr_Text.l0 : Nat → List ByteArray → Int → Int → Int → Option (ByteArray)
  | 0, _, _, _, _ => none
  | k + 1, x3, x8, x137000, x137001 => if x8 < 4 then (if 0 ≤ (wrap64 (24 - (wrap64 (8 * x8)))) then ((addr_digits.f (Go.bits .and .u32 (shr .u32 x137000 (wrap64 (24 - (wrap64 (8 * x8))))) 255)).bind fun t138 => (if x3.length < 8796093022208 then (addr_Text.l0 k (x3 ++ [t138]) (wrap64 (x8 + 1)) x137000 x137001) else (none))) else (none)) else ((strings_Join.f x3 (⟨#[46]⟩ : ByteArray)).bind fun t142 => (if t142.size + 1 ≤ 9223372036854775807 then ((addr_digits.f ((x137001) % 4294967296)).bind fun t143 => (if (t142 ++ (⟨#[47]⟩ : ByteArray)).size + t143.size ≤ 9223372036854775807 then (some ((t142 ++ (⟨#[47]⟩ : ByteArray)) ++ t143)) else (none))) else (none)))
def addr_Text.f (k : Nat) (a0_0 : Int) (a0_1 : Int) : Option (ByteArray) := (addr_May.f a0_0 a0_1).bind fun t137 => (if t137 = true then (addr_Text.l0 k ([] : List ByteArray) 0 a0_0 a0_1) else (some (⟨#[]⟩ : ByteArray)))
theorem addr_Text.mono_l : ∀ k, (∀ y0 y1 y2 y3, LeO (addr_Text.l0 k y0 y1 y2 y3) (addr_Text.l0 (k + 1) y0 y1 y2 y3))
  | 0 => fun _ _ _ _ r h => by simp [addr_Text.l0] at h
  | k + 1 => by
    have ih0 := addr_Text.mono_l k
    · intro y0 y1 y2 y3
      unfold addr_Text.l0
      repeat' first
      | (with_reducible exact ih0 _ _ _ _)
      | (with_reducible exact LeO.refl _)
      | (with_reducible exact LeO.none _)
      | (with_reducible refine LeO.ite ?_ ?_)
      | (with_reducible refine LeO.bind ?_ (fun _ => ?_))
      | exact ih0 _ _ _ _
      | exact LeO.none _
      | refine LeO.ite ?_ ?_
      | refine LeO.bind ?_ (fun _ => ?_)
theorem addr_Text.mono : ∀ a0 a1 k, LeO (addr_Text.f k a0 a1) (addr_Text.f (k + 1) a0 a1) := by
  intro a0 a1 k
  have ih0 := addr_Text.mono_l k
  unfold addr_Text.f
  repeat' first
      | (with_reducible exact ih0 _ _ _ _)
      | (with_reducible exact LeO.refl _)
      | (with_reducible exact LeO.none _)
      | (with_reducible refine LeO.ite ?_ ?_)
      | (with_reducible refine LeO.bind ?_ (fun _ => ?_))
      | exact ih0 _ _ _ _
      | exact LeO.none _
      | refine LeO.ite ?_ ?_
      | refine LeO.bind ?_ (fun _ => ?_)
def addr_Text.T9 : Bool × List (List Nat × List Nat) := (true, [([], []), ([0], [0]), ([1], [1]), ([], []), ([3], [3]), ([4], [4]), ([5, 1], [5]), ([2, 6], [2, 6]), ([7, 6, 0, 1, 2, 3, 4, 5, 6, 7], [7])])
def addr_Text.B9 : List Nat := [0, 1, 3, 0, 8, 24, 59, 127, 255]
theorem addr_Text.tab9 : rtab .any (opsOf Try.f29 9) = addr_Text.T9 := by kernel_rfl
theorem addr_Text.bits9 : waitsOk addr_Text.T9.2 addr_Text.B9 = true := by kernel_rfl
theorem k80fa.b2e {W : World} {g : Nat} {v0 v1 : Value} {t : TypeId} (h : W.heap[g]? = some (.cells #[v0, v1] t (0, 0))) : W.cell? ⟨g, 0, none⟩ = some v0 ∧ W.cell? ⟨g, 1, none⟩ = some v1 :=
  ⟨(blk_cell h 0).trans rfl, (blk_cell h 1).trans rfl⟩
@[reducible] def k80fa.S0 (g0 : Nat) (v0 v1 : Value) (w' : World) : Prop := w'.cell? ⟨g0, 0, none⟩ = some v0 ∧ w'.cell? ⟨g0, 1, none⟩ = some v1
set_option maxHeartbeats 8000000 in
set_option maxRecDepth 100000 in
theorem addr_Text.calls (k : Nat) (ac : Int) (ad : Int) (r : ByteArray) (w : World) (h : addr_Text.f k ac ad = some r) :
  Calls Try.prog 29 #[.agg #[.int .u32 ac, .int .i64 ad]] w fun e w' => e = .returned (.string r) ∧ Below w.heap.size w w' := by
 have hu30 := Try.underlying30
 have HB := Aside0.mk (Below.refl w.heap.size w)
 have H : ((addr_May.f ac ad).bind fun t137 => (if t137 = true then (addr_Text.l0 k ([] : List ByteArray) 0 ac ad) else (some (⟨#[]⟩ : ByteArray)))) = some r := h
 clear h
 replace H := Option.bind_eq_some_iff.mp H
 obtain ⟨t137, A20, H⟩ := H
 (try dsimp only at H)
 have A2 := Aside0.mk A20
 clear A20
 by_cases c3 : t137 = true
 ·subst c3
  have H1 : (addr_Text.l0 k ([] : List ByteArray) 0 ac ad) = some r := by rw [if_pos rfl] at H; exact H
  clear H
  have H := H1
  clear H1
  have H' := Aside0.mk H
  clear H
  go_enter Try.func29, Try.ntmps29
  go_wp2_with (first | ((with_reducible refine gate_dst (N := 1) rfl ?_); refine box_event ?hg (N := 1) ?hd (cs := #[.int .u32 ac, .int .i64 ad]) (t := 30) ?hr ?_; (case hd => rfl); (case hg => rfl); (case hr => first | (go_simp; done) | (go_simp; rfl)); intro ab hg w4 hbox hb; have n0_ := Aside0.mk (below_step (by repeat (first | (with_reducible first | exact HB.out | apply below_alloc | apply pw_below_drewN | apply below_drew1) | exact HB.out)) hb); have n1_ := Aside0.mk (hbox); have n2_ := Aside0.mk ((by rw [hg]; exact (below_size (by repeat (first | (with_reducible first | exact HB.out | apply below_alloc | apply pw_below_drewN | apply below_drew1) | exact HB.out))) : w.heap.size ≤ ab)); have n3_ := Aside0.mk ((by rw [hg]; exact (below_size (by repeat (first | (with_reducible first | exact HB.out | apply below_alloc | apply pw_below_drewN | apply below_drew1) | exact HB.out))) : w.heap.size ≤ ab)); clear HB; have HB := n0_; have aa := n1_; have GW136 := n2_; have ae := n3_; clear n0_ n1_ n2_ n3_; clear hb hbox hg; have hcz5_0 : w4.cell? ⟨ab, 0, none⟩ = some (.int .u32 ac) := (blk_cell aa.out 0).trans rfl; have hcz5_1 : w4.cell? ⟨ab, 1, none⟩ = some (.int .i64 ad) := (blk_cell aa.out 1).trans rfl; have hfz5_0 := blk_frozen aa.out 0; have hfz5_1 := blk_frozen aa.out 1) | ((with_reducible refine gate_callee (f := 27) rfl ?_); refine goesL_ (some 6) rfl rfl Try.func27 (by kernel_rfl) rfl #[.agg #[.int .u32 ac, .int .i64 ad]] rfl (by (try simp only [List.map_toArray, List.map_cons, List.map_nil]); first | done | rfl) ?_; (with_reducible refine (addr_May.calls ac ad true _ A2.out).mono ?_); rintro e w6 ⟨rfl, hb⟩; refine ⟨_, rfl, ?_⟩; replace aa := Aside0.mk (blk_below (g := ab) (by (with_reducible repeat (first | refine blk_drewN ?_ _ | refine blk_drew ?_ | refine blk_alloc ?_ _)); exact aa.out) hb); replace HB := Aside0.mk (below_step (by repeat (first | (with_reducible first | exact HB.out | apply below_alloc | apply pw_below_drewN | apply below_drew1 | refine below_set ?_ ae.out) | exact HB.out)) hb); (try clear hb); (try clear hb2); (try clear hk); (try clear hi)))
  go_loopg [3, 8] k (fun kq v3 v8 w' => ∃ (x3_1 : List ByteArray) (x8_1 : Int), v8 = .int .i64 x8_1 ∧ Aside0 (addr_Text.l0 kq x3_1 x8_1 ac ad = some r) ∧ Aside0 (kq ≤ k) ∧ Aside0 (Kd.R Kd.string 9 w' w.heap.size (fun _ => True) v3 x3_1) ∧ Aside0 (w'.heap[ab]? = some (.cells #[.int .u32 ac, .int .i64 ad] 30 (0, 0))) ∧ Aside0 (Below w.heap.size w w'))
  case atStart => exact ⟨(([] : List ByteArray)), (0), (by first | rfl | (simp; done) | (simp [*]; done)), H', ⟨Nat.le_refl _⟩, ⟨by first | exact Kd.R_nil _ _ _ _ _ | exact Kd.N_nil _ _ _ _ _ | exact Kd.V_nil _ _ _ _ _ | exact Kd.Q_nil _ _ _ _ _ | exact Kd.S_nil _ _ _ _ _⟩, ⟨by (with_reducible repeat (first | refine blk_drewN ?_ _ | refine blk_drew ?_ | refine blk_alloc ?_ _)); exact aa.out⟩, ⟨by repeat (first | (with_reducible first | exact HB.out | apply below_alloc | apply pw_below_drewN | apply below_drew1 | refine below_set ?_ ae.out) | exact HB.out)⟩⟩
  case round =>
   clear H'
   try clear c2
   try clear p2
   try clear c3
   try clear hcz5_0
   try clear hcz5_1
   try clear hfz5_0
   try clear hfz5_1
   obtain ⟨x3_1, x8_1, rfl, HA, HK1, HO_3, aa, HB⟩ := hrel
   cases gk with
   | zero => exact absurd HA.out (by simp [addr_Text.l0])
   | succ k1 =>
    have H := HA.out
    clear HA
    simp only [addr_Text.l0] at H
    by_cases c7 : x8_1 < 4
    ·rw [if_pos c7] at H
     have c7b0 : decide (x8_1 < 4) = true := decide_eq_true c7
     clear c7
     obtain ⟨af, hji8⟩ : ∃ j_ : Int, (wrap64 (24 - (wrap64 (8 * x8_1)))) = j_ := ⟨_, rfl⟩
     replace H : (if 0 ≤ (af) then ((addr_digits.f (Go.bits .and .u32 (shr .u32 ac (af)) 255)).bind fun t138 => (if x3_1.length < 8796093022208 then (addr_Text.l0 k1 (x3_1 ++ [t138]) (wrap64 (x8_1 + 1)) ac ad) else (none))) else (none)) = some r := by first | (rw [hji8] at H; exact H) | (simp only [hji8] at H ⊢; exact H)
     have hji8w : (IntKind.i64.wrap (24 - (wrap64 (8 * x8_1)))) = af := (i64_w _).trans hji8
     by_cases c9 : 0 ≤ (af)
     ·rw [if_pos c9] at H
      have c9b0 := eq_true c9
      have c9b1 : decide (0 ≤ (af)) = true := decide_eq_true c9
      clear c9
      obtain ⟨ji10, hji10⟩ : ∃ j_ : Int, (shr .u32 ac (af)) = j_ := ⟨_, rfl⟩
      replace H : ((addr_digits.f (Go.bits .and .u32 (ji10) 255)).bind fun t138 => (if x3_1.length < 8796093022208 then (addr_Text.l0 k1 (x3_1 ++ [t138]) (wrap64 (x8_1 + 1)) ac ad) else (none))) = some r := by first | (rw [hji10] at H; exact H) | (simp only [hji10] at H ⊢; exact H)
      have hji10_ : (ac / 2 ^ min (af).toNat 32) = ji10 := hji10
      have hji10z : (af) ≤ 32 → (ac / 2 ^ (af).toNat) = ji10 := shr_small hji10
      replace H := Option.bind_eq_some_iff.mp H
      obtain ⟨t138, A110, H⟩ := H
      (try dsimp only at H)
      have A11 := Aside0.mk A110
      clear A110
      by_cases c12 : x3_1.length < 8796093022208
      ·rw [if_pos c12] at H
       have LMc12 := Aside0.mk c12
       clear c12
       obtain ⟨y139, hy139⟩ : ∃ y_ : List ByteArray, y_ = (x3_1 ++ [t138]) := ⟨_, rfl⟩
       replace H : (addr_Text.l0 k1 y139 (wrap64 (x8_1 + 1)) ac ad) = some r := by first | (rw [hy139]; with_reducible exact H) | (have H2_ := (Option.bind_some _ _).symm.trans H; rw [hy139]; with_reducible exact H2_) | (have H2_ := (Option.bind_some _ _).symm.trans H; with_reducible exact H2_) | with_reducible exact H | (rw [hy139]; exact H) | exact H
       have Ny139 := Aside0.mk hy139
       clear hy139
       have H' := Aside0.mk H
       clear H
       have hcz13_0 : wr.cell? ⟨ab, 0, none⟩ = some (.int .u32 ac) := (blk_cell aa.out 0).trans rfl
       have hcz13_1 : wr.cell? ⟨ab, 1, none⟩ = some (.int .i64 ad) := (blk_cell aa.out 1).trans rfl
       have hfz13_0 := blk_frozen aa.out 0
       have hfz13_1 := blk_frozen aa.out 1
       go_wp2_with (first | ((with_reducible refine gate_callee (f := 38) rfl ?_); refine goesL_ (some 19) rfl rfl Try.func38 (by kernel_rfl) rfl #[.int .u32 (Go.bits .and .u32 (ji10) 255)] rfl (by (try simp only [List.map_toArray, List.map_cons, List.map_nil]); first | done | (simp only [hji10]; rfl) | rfl | (simp only [List.length_drop, List.length_take]; rfl)) ?_; (with_reducible refine (addr_digits.calls (Go.bits .and .u32 (ji10) 255) t138 _ A11.out).mono ?_); rintro e w14 ⟨rfl, hb⟩; refine ⟨_, rfl, ?_⟩; replace HO_3 := Aside0.mk (Kd.R_below (by (with_reducible repeat (first | apply Kd.R_alloc | apply Kd.R_drewN | apply Kd.R_drew)); exact HO_3.out) hb); replace aa := Aside0.mk (blk_below (g := ab) (by (with_reducible repeat (first | refine blk_drewN ?_ _ | refine blk_drew ?_ | refine blk_alloc ?_ _)); exact aa.out) hb); replace HB := Aside0.mk (below_step (by repeat (first | (with_reducible first | exact HB.out | apply below_alloc | apply pw_below_drewN | apply below_drew1 | refine below_set ?_ ae.out) | exact HB.out)) hb); (try clear hb); (try clear hb2); (try clear hk); (try clear hi)) | ((with_reducible refine gate_builtin (b := .append) (xs := #[.tmp 11, .tmp 20]) rfl ?_); at_builtin; refine Kd.R_append Kd.string (w0 := w) w.heap.size rfl (.tmp 11) (.tmp 20) 54 9 (.string ⟨#[]⟩) 16 rfl Try.underlying54 info9 rfl (by decide) (by omega) u3 x3_1 t138 [.string t138] (fun _ => True) (fun _ => False) rfl rfl ?aP (fun _ hk => hk.elim) ?aF ?aO ?aB ?aS ?aL ?_; (case aP => exact rfl); (case aB => exact (by repeat (first | (with_reducible first | exact HB.out | apply below_alloc | apply pw_below_drewN | apply below_drew1 | refine below_set ?_ ae.out) | exact HB.out))); (case aF => exact (fun _ _ => trivial)); (case aO => exact (by (with_reducible repeat (first | apply Kd.R_alloc | apply Kd.R_drewN | apply Kd.R_drew)); exact HO_3.out)); (case aS => exact (below_size (by repeat (first | (with_reducible first | exact HB.out | apply below_alloc | apply pw_below_drewN | apply below_drew1 | refine below_set ?_ ae.out) | exact HB.out)))); (case aL => have := LMc12.out; omega); intro v140 w15 ho hb hg hat; rw [← Ny139.out] at ho; replace aa := Aside0.mk (blk_grown (g := ab) (o := .cells #[.int .u32 ac, .int .i64 ad] 30 (0, 0)) (by (with_reducible repeat (first | refine blk_drewN ?_ _ | refine blk_drew ?_ | refine blk_alloc ?_ _)); exact aa.out) hg (Kd.R_ne HO_3.out aa.out (by decide))); replace HB := Aside0.mk (hb); have HO141 := Aside0.mk (ho); clear HO_3; clear ho hb hg hat))
       go_roundg k1
       case measure => have := HK1.out; omega
       case rel => exact ⟨(y139), (wrap64 (x8_1 + 1)), (by first | rfl | (simp; done) | (simp [*]; done)), H', ⟨by have := HK1.out; omega⟩, ⟨by (with_reducible repeat (first | apply Kd.R_alloc | apply Kd.R_drewN | apply Kd.R_drew)); exact HO141.out⟩, ⟨by (with_reducible repeat (first | refine blk_drewN ?_ _ | refine blk_drew ?_ | refine blk_alloc ?_ _)); exact aa.out⟩, ⟨by repeat (first | (with_reducible first | exact HB.out | apply below_alloc | apply pw_below_drewN | apply below_drew1 | refine below_set ?_ ae.out) | exact HB.out)⟩⟩
      ·rw [if_neg c12] at H
       exact absurd H (by simp)
     ·rw [if_neg c9] at H
      exact absurd H (by simp)
    ·rw [if_neg c7] at H
     have c7b0 : decide (x8_1 < 4) = false := decide_eq_false c7
     clear c7
     replace H := Option.bind_eq_some_iff.mp H
     obtain ⟨t142, A160, H⟩ := H
     (try dsimp only at H)
     have A16 := Aside0.mk A160
     clear A160
     by_cases c17 : t142.size + 1 ≤ 9223372036854775807
     ·rw [if_pos c17] at H
      have c17b0 := eq_true c17
      have c17b1 : decide (t142.size + 1 ≤ 9223372036854775807) = true := decide_eq_true c17
      try have c17b2 : (9223372036854775807 < t142.size + 1) = False := eq_false (Nat.not_lt.2 c17)
      replace H := Option.bind_eq_some_iff.mp H
      obtain ⟨t143, A180, H⟩ := H
      (try dsimp only at H)
      have A18 := Aside0.mk A180
      clear A180
      by_cases c19 : (t142 ++ (⟨#[47]⟩ : ByteArray)).size + t143.size ≤ 9223372036854775807
      ·rw [if_pos c19] at H
       have c19b0 := eq_true c19
       have c19b1 : decide ((t142 ++ (⟨#[47]⟩ : ByteArray)).size + t143.size ≤ 9223372036854775807) = true := decide_eq_true c19
       try have c19b2 : (9223372036854775807 < (t142 ++ (⟨#[47]⟩ : ByteArray)).size + t143.size) = False := eq_false (Nat.not_lt.2 c19)
       try have c19b3 : (9223372036854775807 < t142.size + 1 + t143.size) = False := eq_false (Nat.not_lt.2 (by have h_ := c19; simp only [ByteArray.size_append] at h_; exact h_))
       obtain rfl := Option.some.inj H
       try go_wp2
       replace HO_3 := Aside0.mk (Kd.R_drew HO_3.out)
       replace aa := Aside0.mk (blk_drew aa.out)
       replace HB := Aside0.mk (below_drew1 HB.out)
       obtain ⟨Ao21, co21, eo21⟩ := Kd.R_slice HO_3.out
       (first | subst eo21 | (injection eo21 with f1_ f2_ f3_; have f4_ := f1_.symm; have f5_ := f3_.symm; clear f1_ f2_ f3_; subst f4_; subst f5_))
       refine start_ (n := 9) (S := k80fa.S0 ab (.int .u32 ac) (.int .i64 ad)) (ds := []) #[false, false, false, false, false, false, false, false, false] (by kernel_rfl) rfl rfl (k80fa.b2e aa.out) (fun hHeld => ?_); refine with_tabW addr_Text.tab9 addr_Text.bits9 (fun HT_ HW_ => ?_)
       generalize wr.drew = w20 at HO_3 aa HB hHeld ⊢
       refine pure_ (i := 0) (N := some 23) (v := ?_) (a' := ?_) #[true, false, false, false, false, false, false, false, false] rfl rfl (any_of HT_.out (by kernel_rfl)) (fun _ _ _ h => h) (Or.inl ⟨by rfl, ?_⟩) ?_ ?_
       rotate_left
       ·intro w'
        go_simp
        with_reducible rfl
       rotate_left
       ·simp only [Act.put, List.setIfInBounds_toArray, List.set_cons_zero, List.set_cons_succ, i64_w]
        rfl
       refine pure_ (i := 3) (N := some 26) (v := ?_) (a' := ?_) #[true, false, false, true, false, false, false, false, false] rfl rfl (any_of HT_.out (by kernel_rfl)) (fun _ _ _ h => h) (Or.inl ⟨by rfl, ?_⟩) ?_ ?_
       rotate_left
       ·intro w'
        go_simp
        with_reducible rfl
       rotate_left
       ·simp only [Act.put, List.setIfInBounds_toArray, List.set_cons_zero, List.set_cons_succ, i64_w]
        rfl
       refine take_ (i := 4) (N := some 27) (v := ?_) (a' := ?_) #[true, false, false, true, true, false, false, false, false] rfl rfl (take_ofW HT_.out HW_.out (by kernel_rfl)) (fun _ _ _ h => h) (Or.inl ⟨by rfl, ?_⟩) hHeld ?_ ?_
       rotate_left
       ·rintro w' ⟨s0, s1⟩
        go_simp
        with_reducible rfl
       rotate_left
       ·simp only [Act.put, List.setIfInBounds_toArray, List.set_cons_zero, List.set_cons_succ, i64_w]
        rfl
       refine pure_ (i := 5) (N := some 28) (v := ?_) (a' := ?_) #[true, false, false, true, true, true, false, false, false] rfl rfl (any_of HT_.out (by kernel_rfl)) (fun _ _ _ h => h) (Or.inl ⟨by rfl, ?_⟩) ?_ ?_
       rotate_left
       ·intro w'
        go_simp
        with_reducible rfl
       rotate_left
       ·simp only [Act.put, List.setIfInBounds_toArray, List.set_cons_zero, List.set_cons_succ, i64_w]
        rfl
       refine one_ (i := 1) (N := some 24) #[true, true, false, true, true, true, false, false, false] rfl rfl (one_of HT_.out (by kernel_rfl)) (by decide) (fun K hK => ?_)
       refine goes_ Try.func39 (by kernel_rfl) rfl #[.slice Ao21 x3_1.length co21, .string (⟨#[46]⟩ : ByteArray)] (by rfl) rfl rfl (by (try simp only [List.map_toArray, List.map_cons, List.map_nil]); first | done | rfl) ?_
       with_reducible refine (strings_Join.calls _ _ x3_1 (⟨#[46]⟩ : ByteArray) t142 _ ?side1 ?side2 A16.out).mono ?_
       (case side1 => repeat (first | exact (Kd.R_reads' HO_3.out).2.2 | (with_reducible refine Kd.C_alloc ?_ _) | (with_reducible refine Kd.C_drewN ?_ _) | (with_reducible refine Kd.C_drew ?_)))
       (case side2 => exact (Kd.R_reads' HO_3.out).2.1)
       rintro e w22 ⟨rfl, hb⟩
       refine ⟨_, rfl, ?_⟩
       replace HO_3 := Aside0.mk (Kd.R_below (by (with_reducible repeat (first | apply Kd.R_alloc | apply Kd.R_drewN | apply Kd.R_drew)); exact HO_3.out) hb)
       replace aa := Aside0.mk (blk_below (g := ab) (by (with_reducible repeat (first | refine blk_drewN ?_ _ | refine blk_drew ?_ | refine blk_alloc ?_ _)); exact aa.out) hb)
       replace HB := Aside0.mk (below_step (by repeat (first | (with_reducible first | exact HB.out | apply below_alloc | apply pw_below_drewN | apply below_drew1 | refine below_set ?_ ae.out) | exact HB.out)) hb)
       (try clear hb)
       (try clear hb2)
       (try clear hk)
       (try clear hi)
       refine hK.out _ _ (k80fa.b2e aa.out) (fun hHeld => ?_)
       clear hK K
       refine norm_ (a' := ?_) ?_ ?_
       rotate_left
       ·show Act.put _ (some 24) _ = _
        simp only [Act.put, List.setIfInBounds_toArray, List.set_cons_zero, List.set_cons_succ, i64_w]
        rfl
       refine pure_ (i := 2) (N := some 25) (v := ?_) (a' := ?_) #[true, true, true, true, true, true, false, false, false] rfl rfl (any_of HT_.out (by kernel_rfl)) (fun _ _ _ h => h) (Or.inl ⟨by rfl, ?_⟩) ?_ ?_
       rotate_left
       ·intro w'
        go_simp
        with_reducible rfl
       rotate_left
       ·simp only [Act.put, List.setIfInBounds_toArray, List.set_cons_zero, List.set_cons_succ, i64_w]
        rfl
       refine one_ (i := 6) (N := some 29) #[true, true, true, true, true, true, true, false, false] rfl rfl (one_of HT_.out (by kernel_rfl)) (by decide) (fun K hK => ?_)
       refine goes_ Try.func38 (by kernel_rfl) rfl #[.int .u32 ((ad) % 4294967296)] (by rfl) rfl rfl (by (try simp only [List.map_toArray, List.map_cons, List.map_nil]); first | done | rfl) ?_
       with_reducible refine (addr_digits.calls ((ad) % 4294967296) t143 _ A18.out).mono ?_
       rintro e w23 ⟨rfl, hb⟩
       refine ⟨_, rfl, ?_⟩
       replace HO_3 := Aside0.mk (Kd.R_below (by (with_reducible repeat (first | apply Kd.R_alloc | apply Kd.R_drewN | apply Kd.R_drew)); exact HO_3.out) hb)
       replace aa := Aside0.mk (blk_below (g := ab) (by (with_reducible repeat (first | refine blk_drewN ?_ _ | refine blk_drew ?_ | refine blk_alloc ?_ _)); exact aa.out) hb)
       replace HB := Aside0.mk (below_step (by repeat (first | (with_reducible first | exact HB.out | apply below_alloc | apply pw_below_drewN | apply below_drew1 | refine below_set ?_ ae.out) | exact HB.out)) hb)
       (try clear hb)
       (try clear hb2)
       (try clear hk)
       (try clear hi)
       refine hK.out _ _ (k80fa.b2e aa.out) (fun hHeld => ?_)
       clear hK K
       refine norm_ (a' := ?_) ?_ ?_
       rotate_left
       ·show Act.put _ (some 29) _ = _
        simp only [Act.put, List.setIfInBounds_toArray, List.set_cons_zero, List.set_cons_succ, i64_w]
        rfl
       refine pure_ (i := 7) (N := some 30) (v := ?_) (a' := ?_) #[true, true, true, true, true, true, true, true, false] rfl rfl (any_of HT_.out (by kernel_rfl)) (fun _ _ _ h => h) (Or.inl ⟨by rfl, ?_⟩) ?_ ?_
       rotate_left
       ·intro w'
        go_simp
        with_reducible rfl
       rotate_left
       ·simp only [Act.put, List.setIfInBounds_toArray, List.set_cons_zero, List.set_cons_succ, i64_w]
        rfl
       refine pure_ (i := 8) (N := some 2) (v := ?_) (a' := ?_) #[true, true, true, true, true, true, true, true, true] rfl rfl (any_of HT_.out (by kernel_rfl)) (fun _ _ _ h => h) (Or.inl ⟨by rfl, ?_⟩) ?_ ?_
       rotate_left
       ·intro w'
        go_simp
        with_reducible rfl
       rotate_left
       ·simp only [Act.put, List.setIfInBounds_toArray, List.set_cons_zero, List.set_cons_succ, i64_w]
        rfl
       refine done_ (done_of HT_.out (by kernel_rfl)) ?_
       try go_wp2
       go_ret
       exact ⟨by first | rfl | (simp [errW_none, errW_some] <;> rfl) | (simp [*, errW_none, errW_some] <;> rfl), by repeat (first | (with_reducible first | exact HB.out | apply below_alloc | apply pw_below_drewN | apply below_drew1 | refine below_set ?_ ae.out) | exact HB.out)⟩
      ·rw [if_neg c19] at H
       exact absurd H (by simp)
     ·rw [if_neg c17] at H
      exact absurd H (by simp)
 ·replace c3 := Bool.eq_false_iff.mpr c3
  subst c3
  have H1 : (some (⟨#[]⟩ : ByteArray)) = some r := by rw [if_neg (show ¬ (false = true) by decide)] at H; exact H
  clear H
  have H := H1
  clear H1
  obtain rfl := Option.some.inj H
  go_enter Try.func29, Try.ntmps29
  go_wp2_with (first | ((with_reducible refine gate_dst (N := 1) rfl ?_); refine box_event ?hg (N := 1) ?hd (cs := #[.int .u32 ac, .int .i64 ad]) (t := 30) ?hr ?_; (case hd => rfl); (case hg => rfl); (case hr => first | (go_simp; done) | (go_simp; rfl)); intro ab hg w24 hbox hb; have n0_ := Aside0.mk (below_step (by repeat (first | (with_reducible first | exact HB.out | apply below_alloc | apply pw_below_drewN | apply below_drew1) | exact HB.out)) hb); have n1_ := Aside0.mk (hbox); have n2_ := Aside0.mk ((by rw [hg]; exact (below_size (by repeat (first | (with_reducible first | exact HB.out | apply below_alloc | apply pw_below_drewN | apply below_drew1) | exact HB.out))) : w.heap.size ≤ ab)); have n3_ := Aside0.mk ((by rw [hg]; exact (below_size (by repeat (first | (with_reducible first | exact HB.out | apply below_alloc | apply pw_below_drewN | apply below_drew1) | exact HB.out))) : w.heap.size ≤ ab)); clear HB; have HB := n0_; have aa := n1_; have GW136 := n2_; have ae := n3_; clear n0_ n1_ n2_ n3_; clear hb hbox hg; have hcz25_0 : w24.cell? ⟨ab, 0, none⟩ = some (.int .u32 ac) := (blk_cell aa.out 0).trans rfl; have hcz25_1 : w24.cell? ⟨ab, 1, none⟩ = some (.int .i64 ad) := (blk_cell aa.out 1).trans rfl; have hfz25_0 := blk_frozen aa.out 0; have hfz25_1 := blk_frozen aa.out 1) | ((with_reducible refine gate_callee (f := 27) rfl ?_); refine goesL_ (some 6) rfl rfl Try.func27 (by kernel_rfl) rfl #[.agg #[.int .u32 ac, .int .i64 ad]] rfl (by (try simp only [List.map_toArray, List.map_cons, List.map_nil]); first | done | rfl) ?_; (with_reducible refine (addr_May.calls ac ad false _ A2.out).mono ?_); rintro e w26 ⟨rfl, hb⟩; refine ⟨_, rfl, ?_⟩; replace aa := Aside0.mk (blk_below (g := ab) (by (with_reducible repeat (first | refine blk_drewN ?_ _ | refine blk_drew ?_ | refine blk_alloc ?_ _)); exact aa.out) hb); replace HB := Aside0.mk (below_step (by repeat (first | (with_reducible first | exact HB.out | apply below_alloc | apply pw_below_drewN | apply below_drew1 | refine below_set ?_ ae.out) | exact HB.out)) hb); (try clear hb); (try clear hb2); (try clear hk); (try clear hi)))
  go_ret
  exact ⟨by first | rfl | (simp [errW_none, errW_some] <;> rfl) | (simp [*, errW_none, errW_some] <;> rfl), by repeat (first | (with_reducible first | exact HB.out | apply below_alloc | apply pw_below_drewN | apply below_drew1 | refine below_set ?_ ae.out) | exact HB.out)⟩

def whirligiglaw01_lives.f (k : Nat)  : Option (Bool) := (addr_Plain.f k (([(⟨167772160, 9⟩ : S30), (⟨176160768, 9⟩ : S30)] : List (S30)))).bind fun bt147 => ((addr_Text.f k 167772160 8).bind fun t151 => (if t151.toList = ([49, 48, 46, 48, 46, 48, 46, 48, 47, 56] : List UInt8) then (if bt147.2 = 0 then ((whirligigref01_Same.f k bt147.1 (([(⟨167772160, 8⟩ : S30)] : List (S30)))).bind fun t155 => (some t155)) else (some false)) else (some false)))
theorem whirligiglaw01_lives.mono : ∀ k, LeO (whirligiglaw01_lives.f k ) (whirligiglaw01_lives.f (k + 1) ) := by
  intro  k
  unfold whirligiglaw01_lives.f
  repeat' first
      | (with_reducible exact addr_Plain.mono _ _)
      | (with_reducible exact addr_Text.mono _ _ _)
      | (with_reducible exact whirligigref01_Same.mono _ _ _)
      | (with_reducible exact LeO.refl _)
      | (with_reducible exact LeO.none _)
      | (with_reducible refine LeO.ite ?_ ?_)
      | (with_reducible refine LeO.bind ?_ (fun _ => ?_))
      | exact addr_Plain.mono _ _
      | exact addr_Text.mono _ _ _
      | exact whirligigref01_Same.mono _ _ _
      | exact LeO.none _
      | refine LeO.ite ?_ ?_
      | refine LeO.bind ?_ (fun _ => ?_)
set_option maxHeartbeats 8000000 in
set_option maxRecDepth 100000 in
theorem whirligiglaw01_lives.calls (k : Nat)  (r : Bool) (w : World) (h : whirligiglaw01_lives.f k  = some r) :
  Calls Try.prog 8 #[] w fun e w' => e = .returned (.bool r) ∧ Below w.heap.size w w' := by
 have hu30 := Try.underlying30
 have HB := Aside0.mk (Below.refl w.heap.size w)
 have H := h
 unfold whirligiglaw01_lives.f at H
 clear h
 obtain ⟨y144, hy144⟩ : ∃ y_ : List (S30), y_ = (([(⟨167772160, 9⟩ : S30), (⟨176160768, 9⟩ : S30)] : List (S30))) := ⟨_, rfl⟩
 replace H : ((addr_Plain.f k y144).bind fun bt147 => ((addr_Text.f k 167772160 8).bind fun t151 => (if t151.toList = ([49, 48, 46, 48, 46, 48, 46, 48, 47, 56] : List UInt8) then (if bt147.2 = 0 then ((whirligigref01_Same.f k bt147.1 (([(⟨167772160, 8⟩ : S30)] : List (S30)))).bind fun t155 => (some t155)) else (some false)) else (some false)))) = some r := by first | (rw [hy144]; with_reducible exact H) | (have H2_ := (Option.bind_some _ _).symm.trans H; rw [hy144]; with_reducible exact H2_) | (have H2_ := (Option.bind_some _ _).symm.trans H; with_reducible exact H2_) | with_reducible exact H | (rw [hy144]; exact H) | exact H
 have Ny144 := Aside0.mk hy144
 clear hy144
 replace H := Option.bind_eq_some_iff.mp H
 obtain ⟨⟨t147, t148⟩, A10, H⟩ := H
 (try dsimp only at H)
 have A1 := Aside0.mk A10
 clear A10
 replace H := Option.bind_eq_some_iff.mp H
 obtain ⟨t151, A20, H⟩ := H
 (try dsimp only at H)
 have A2 := Aside0.mk A20
 clear A20
 by_cases c3 : t151.toList = ([49, 48, 46, 48, 46, 48, 46, 48, 47, 56] : List UInt8)
 ·rw [if_pos c3] at H
  have c3b0 : (t151.toList == ([49, 48, 46, 48, 46, 48, 46, 48, 47, 56] : List UInt8)) = true := beq_iff_eq.mpr c3
  have c3b1 : (t151.toList != ([49, 48, 46, 48, 46, 48, 46, 48, 47, 56] : List UInt8)) = false := bne_eq_false_iff_eq.mpr c3
  clear c3
  by_cases c4 : t148 = 0
  ·rw [if_pos c4] at H
   have c4b0 : (t148 == 0) = true := beq_iff_eq.mpr c4
   have c4b1 : (t148 != 0) = false := bne_eq_false_iff_eq.mpr c4
   clear c4
   obtain ⟨y152, hy152⟩ : ∃ y_ : List (S30), y_ = (([(⟨167772160, 8⟩ : S30)] : List (S30))) := ⟨_, rfl⟩
   replace H : ((whirligigref01_Same.f k t147 y152).bind fun t155 => (some t155)) = some r := by first | (rw [hy152]; with_reducible exact H) | (have H2_ := (Option.bind_some _ _).symm.trans H; rw [hy152]; with_reducible exact H2_) | (have H2_ := (Option.bind_some _ _).symm.trans H; with_reducible exact H2_) | with_reducible exact H | (rw [hy152]; exact H) | exact H
   have Ny152 := Aside0.mk hy152
   clear hy152
   replace H := Option.bind_eq_some_iff.mp H
   obtain ⟨t155, A50, H⟩ := H
   replace H : (some t155) = some r := H
   have A5 := Aside0.mk A50
   clear A50
   obtain rfl := Option.some.inj H
   go_enter Try.func8, Try.ntmps8
   go_wp2_with (first | ((with_reducible refine gate_dst (N := 6) rfl ?_); (try (refine gate_guard (by rfl) ?_; dsimp only)); refine Kd.R_lit k30 _ 30 ?hg (N := 6) ?hd (xs := ([(⟨167772160, 9⟩ : S30), (⟨176160768, 9⟩ : S30)] : List (S30))) (inner := [.int .u32 167772160, .int .i64 9, .int .u32 176160768, .int .i64 9]) (ok := fun _ => True) (okp := fun _ => True) ?hr ?hp (fun _ hk => hk) trivial (Below.refl _ _) (Nat.le_refl _) (by simp) ?_; (case hd => rfl); (case hg => rfl); (case hr => first | (go_simp; done) | (go_simp; rfl)); (case hp => exact (Reps.c2 (show Kd.M k30 _ _ _ (⟨167772160, 9⟩ : S30) [.int .u32 167772160, .int .i64 9] from (k30_mkM _ _ _ (⟨167772160, 9⟩ : S30) )) (Reps.c2 (show Kd.M k30 _ _ _ (⟨176160768, 9⟩ : S30) [.int .u32 176160768, .int .i64 9] from (k30_mkM _ _ _ (⟨176160768, 9⟩ : S30) )) (Reps.none _ _)))); intro v145 w6 ho7 hb hg_ hnew_; clear hg_ hnew_; (first | rw [← Ny144.out] at ho7 | (simp only [Int.reduceToNat] at ho7; rw [← Ny144.out] at ho7)); have aa := Aside0.mk (Kd.R_lower ho7 (below_size (by repeat (first | (with_reducible first | exact HB.out | apply below_alloc | apply pw_below_drewN | apply below_drew1) | exact HB.out)))); replace HB := Aside0.mk (below_step (by repeat (first | (with_reducible first | exact HB.out | apply below_alloc | apply pw_below_drewN | apply below_drew1) | exact HB.out)) hb); clear hb ho7; obtain ⟨Ao8, co8, eo8⟩ := Kd.R_slice aa.out; subst eo8) | ((with_reducible refine gate_callee (f := 9) rfl ?_); refine goesL_ (some 7) rfl rfl Try.func9 (by kernel_rfl) rfl #[.slice Ao8 y144.length co8] rfl (by (try simp only [List.map_toArray, List.map_cons, List.map_nil]); first | done | rfl) ?_; (with_reducible refine (addr_Plain.calls k _ _ y144 t147 t148 _ ?side1 ?side2 A1.out).mono ?_); (case side1 => repeat (first | exact (Kd.R_reads' aa.out).2.2 | (with_reducible refine Kd.C_alloc ?_ _) | (with_reducible refine Kd.C_drewN ?_ _) | (with_reducible refine Kd.C_drew ?_))); (case side2 => exact (Kd.R_reads' aa.out).2.1); rintro e w9 ⟨v149, rfl, ho0, hb⟩; refine ⟨_, rfl, ?_⟩; have n0_ := Aside0.mk (Kd.R_elder' (by (with_reducible repeat (first | apply Kd.R_alloc | apply Kd.R_drewN | apply Kd.R_drew)); exact aa.out) (Kd.R_base ho0) hb); have n1_ := Aside0.mk (Kd.R_lower (Kd.R_new' ho0 (Kd.R_lt (by (with_reducible repeat (first | apply Kd.R_alloc | apply Kd.R_drewN | apply Kd.R_drew)); exact aa.out))) (below_size (by repeat (first | (with_reducible first | exact HB.out | apply below_alloc | apply pw_below_drewN | apply below_drew1) | exact HB.out)))); have n2_ := Aside0.mk (below_step (by repeat (first | (with_reducible first | exact HB.out | apply below_alloc | apply pw_below_drewN | apply below_drew1) | exact HB.out)) hb); clear aa; clear HB; have aa := n0_; have ab := n1_; have HB := n2_; clear n0_ n1_ n2_; (try clear hb); (try clear hb2); (try clear hk); (try clear hi); (try clear ho0)) | ((with_reducible refine gate_callee (f := 29) rfl ?_); refine goesL_ (some 11) rfl rfl Try.func29 (by kernel_rfl) rfl #[.agg #[.int .u32 167772160, .int .i64 8]] rfl (by (try simp only [List.map_toArray, List.map_cons, List.map_nil]); first | done | rfl) ?_; (with_reducible refine (addr_Text.calls k 167772160 8 t151 _ A2.out).mono ?_); rintro e w10 ⟨rfl, hb⟩; refine ⟨_, rfl, ?_⟩; replace aa := Aside0.mk (Kd.R_below (by (with_reducible repeat (first | apply Kd.R_alloc | apply Kd.R_drewN | apply Kd.R_drew)); exact aa.out) hb); replace ab := Aside0.mk (Kd.R_below (by (with_reducible repeat (first | apply Kd.R_alloc | apply Kd.R_drewN | apply Kd.R_drew)); exact ab.out) hb); replace HB := Aside0.mk (below_step (by repeat (first | (with_reducible first | exact HB.out | apply below_alloc | apply pw_below_drewN | apply below_drew1) | exact HB.out)) hb); (try clear hb); (try clear hb2); (try clear hk); (try clear hi)) | ((with_reducible refine gate_dst (N := 20) rfl ?_); (try (refine gate_guard (by rfl) ?_; dsimp only)); refine Kd.R_lit k30 _ 30 ?hg (N := 20) ?hd (xs := ([(⟨167772160, 8⟩ : S30)] : List (S30))) (inner := [.int .u32 167772160, .int .i64 8]) (ok := fun _ => True) (okp := fun _ => True) ?hr ?hp (fun _ hk => hk) trivial (Below.refl _ _) (Nat.le_refl _) (by simp) ?_; (case hd => rfl); (case hg => rfl); (case hr => first | (go_simp; done) | (go_simp; rfl)); (case hp => exact (Reps.c2 (show Kd.M k30 _ _ _ (⟨167772160, 8⟩ : S30) [.int .u32 167772160, .int .i64 8] from (k30_mkM _ _ _ (⟨167772160, 8⟩ : S30) )) (Reps.none _ _))); intro v153 w11 ho12 hb hg_ hnew_; clear hg_ hnew_; (first | rw [← Ny152.out] at ho12 | (simp only [Int.reduceToNat] at ho12; rw [← Ny152.out] at ho12)); have n0_ := Aside0.mk (Kd.R_elder' (by (with_reducible repeat (first | apply Kd.R_alloc | apply Kd.R_drewN | apply Kd.R_drew)); exact aa.out) (Kd.R_base ho12) hb); have n1_ := Aside0.mk (Kd.R_elder' (by (with_reducible repeat (first | apply Kd.R_alloc | apply Kd.R_drewN | apply Kd.R_drew)); exact ab.out) (Kd.R_base ho12) hb); have n2_ := Aside0.mk (Kd.R_lower (Kd.R_new' (Kd.R_new' ho12 (Kd.R_lt (by (with_reducible repeat (first | apply Kd.R_alloc | apply Kd.R_drewN | apply Kd.R_drew)); exact aa.out))) (Kd.R_lt (by (with_reducible repeat (first | apply Kd.R_alloc | apply Kd.R_drewN | apply Kd.R_drew)); exact ab.out))) (below_size (by repeat (first | (with_reducible first | exact HB.out | apply below_alloc | apply pw_below_drewN | apply below_drew1) | exact HB.out)))); have n3_ := Aside0.mk (below_step (by repeat (first | (with_reducible first | exact HB.out | apply below_alloc | apply pw_below_drewN | apply below_drew1) | exact HB.out)) hb); clear aa; clear ab; clear HB; have aa := n0_; have ab := n1_; have HO154 := n2_; have HB := n3_; clear n0_ n1_ n2_ n3_; clear hb ho12; obtain ⟨Ao13, co13, eo13⟩ := Kd.R_slice ab.out; subst eo13; obtain ⟨Ao14, co14, eo14⟩ := Kd.R_slice HO154.out; subst eo14) | (go_at_call 12; (with_reducible refine (whirligigref01_Same.calls k _ _ t147 _ _ y152 t155 _ ?side1 ?side2 ?side3 ?side4 A5.out).mono ?_); (case side1 | side3 => repeat (first | exact (Kd.R_reads' ab.out).2.2 | exact (Kd.R_reads' HO154.out).2.2 | (with_reducible refine Kd.C_alloc ?_ _) | (with_reducible refine Kd.C_drewN ?_ _) | (with_reducible refine Kd.C_drew ?_))); (case side2 | side4 => first | exact (Kd.R_reads' ab.out).2.1 | exact (Kd.R_reads' HO154.out).2.1); rintro e w' ⟨rfl, ⟨nd, rfl⟩⟩))
   go_ret
   exact ⟨by first | rfl | (simp [errW_none, errW_some] <;> rfl) | (simp [*, errW_none, errW_some] <;> rfl), by repeat (first | (with_reducible first | exact HB.out | apply below_alloc | apply pw_below_drewN | apply below_drew1) | exact HB.out)⟩
  ·rw [if_neg c4] at H
   have c4b0 : (t148 == 0) = false := beq_eq_false_iff_ne.mpr c4
   have c4b1 : (t148 != 0) = true := bne_iff_ne.mpr c4
   obtain rfl := Option.some.inj H
   go_enter Try.func8, Try.ntmps8
   go_wp2_with (first | ((with_reducible refine gate_dst (N := 6) rfl ?_); (try (refine gate_guard (by rfl) ?_; dsimp only)); refine Kd.R_lit k30 _ 30 ?hg (N := 6) ?hd (xs := ([(⟨167772160, 9⟩ : S30), (⟨176160768, 9⟩ : S30)] : List (S30))) (inner := [.int .u32 167772160, .int .i64 9, .int .u32 176160768, .int .i64 9]) (ok := fun _ => True) (okp := fun _ => True) ?hr ?hp (fun _ hk => hk) trivial (Below.refl _ _) (Nat.le_refl _) (by simp) ?_; (case hd => rfl); (case hg => rfl); (case hr => first | (go_simp; done) | (go_simp; rfl)); (case hp => exact (Reps.c2 (show Kd.M k30 _ _ _ (⟨167772160, 9⟩ : S30) [.int .u32 167772160, .int .i64 9] from (k30_mkM _ _ _ (⟨167772160, 9⟩ : S30) )) (Reps.c2 (show Kd.M k30 _ _ _ (⟨176160768, 9⟩ : S30) [.int .u32 176160768, .int .i64 9] from (k30_mkM _ _ _ (⟨176160768, 9⟩ : S30) )) (Reps.none _ _)))); intro v145 w15 ho16 hb hg_ hnew_; clear hg_ hnew_; (first | rw [← Ny144.out] at ho16 | (simp only [Int.reduceToNat] at ho16; rw [← Ny144.out] at ho16)); have aa := Aside0.mk (Kd.R_lower ho16 (below_size (by repeat (first | (with_reducible first | exact HB.out | apply below_alloc | apply pw_below_drewN | apply below_drew1) | exact HB.out)))); replace HB := Aside0.mk (below_step (by repeat (first | (with_reducible first | exact HB.out | apply below_alloc | apply pw_below_drewN | apply below_drew1) | exact HB.out)) hb); clear hb ho16; obtain ⟨Ao17, co17, eo17⟩ := Kd.R_slice aa.out; subst eo17) | ((with_reducible refine gate_callee (f := 9) rfl ?_); refine goesL_ (some 7) rfl rfl Try.func9 (by kernel_rfl) rfl #[.slice Ao17 y144.length co17] rfl (by (try simp only [List.map_toArray, List.map_cons, List.map_nil]); first | done | rfl) ?_; (with_reducible refine (addr_Plain.calls k _ _ y144 t147 t148 _ ?side1 ?side2 A1.out).mono ?_); (case side1 => repeat (first | exact (Kd.R_reads' aa.out).2.2 | (with_reducible refine Kd.C_alloc ?_ _) | (with_reducible refine Kd.C_drewN ?_ _) | (with_reducible refine Kd.C_drew ?_))); (case side2 => exact (Kd.R_reads' aa.out).2.1); rintro e w18 ⟨v149, rfl, ho0, hb⟩; refine ⟨_, rfl, ?_⟩; have n0_ := Aside0.mk (Kd.R_elder' (by (with_reducible repeat (first | apply Kd.R_alloc | apply Kd.R_drewN | apply Kd.R_drew)); exact aa.out) (Kd.R_base ho0) hb); have n1_ := Aside0.mk (Kd.R_lower (Kd.R_new' ho0 (Kd.R_lt (by (with_reducible repeat (first | apply Kd.R_alloc | apply Kd.R_drewN | apply Kd.R_drew)); exact aa.out))) (below_size (by repeat (first | (with_reducible first | exact HB.out | apply below_alloc | apply pw_below_drewN | apply below_drew1) | exact HB.out)))); have n2_ := Aside0.mk (below_step (by repeat (first | (with_reducible first | exact HB.out | apply below_alloc | apply pw_below_drewN | apply below_drew1) | exact HB.out)) hb); clear aa; clear HB; have aa := n0_; have ab := n1_; have HB := n2_; clear n0_ n1_ n2_; (try clear hb); (try clear hb2); (try clear hk); (try clear hi); (try clear ho0)) | ((with_reducible refine gate_callee (f := 29) rfl ?_); refine goesL_ (some 11) rfl rfl Try.func29 (by kernel_rfl) rfl #[.agg #[.int .u32 167772160, .int .i64 8]] rfl (by (try simp only [List.map_toArray, List.map_cons, List.map_nil]); first | done | rfl) ?_; (with_reducible refine (addr_Text.calls k 167772160 8 t151 _ A2.out).mono ?_); rintro e w19 ⟨rfl, hb⟩; refine ⟨_, rfl, ?_⟩; replace aa := Aside0.mk (Kd.R_below (by (with_reducible repeat (first | apply Kd.R_alloc | apply Kd.R_drewN | apply Kd.R_drew)); exact aa.out) hb); replace ab := Aside0.mk (Kd.R_below (by (with_reducible repeat (first | apply Kd.R_alloc | apply Kd.R_drewN | apply Kd.R_drew)); exact ab.out) hb); replace HB := Aside0.mk (below_step (by repeat (first | (with_reducible first | exact HB.out | apply below_alloc | apply pw_below_drewN | apply below_drew1) | exact HB.out)) hb); (try clear hb); (try clear hb2); (try clear hk); (try clear hi)))
   go_ret
   exact ⟨by first | rfl | (simp [errW_none, errW_some] <;> rfl) | (simp [*, errW_none, errW_some] <;> rfl), by repeat (first | (with_reducible first | exact HB.out | apply below_alloc | apply pw_below_drewN | apply below_drew1) | exact HB.out)⟩
 ·rw [if_neg c3] at H
  have c3b0 : (t151.toList == ([49, 48, 46, 48, 46, 48, 46, 48, 47, 56] : List UInt8)) = false := beq_eq_false_iff_ne.mpr c3
  have c3b1 : (t151.toList != ([49, 48, 46, 48, 46, 48, 46, 48, 47, 56] : List UInt8)) = true := bne_iff_ne.mpr c3
  obtain rfl := Option.some.inj H
  go_enter Try.func8, Try.ntmps8
  go_wp2_with (first | ((with_reducible refine gate_dst (N := 6) rfl ?_); (try (refine gate_guard (by rfl) ?_; dsimp only)); refine Kd.R_lit k30 _ 30 ?hg (N := 6) ?hd (xs := ([(⟨167772160, 9⟩ : S30), (⟨176160768, 9⟩ : S30)] : List (S30))) (inner := [.int .u32 167772160, .int .i64 9, .int .u32 176160768, .int .i64 9]) (ok := fun _ => True) (okp := fun _ => True) ?hr ?hp (fun _ hk => hk) trivial (Below.refl _ _) (Nat.le_refl _) (by simp) ?_; (case hd => rfl); (case hg => rfl); (case hr => first | (go_simp; done) | (go_simp; rfl)); (case hp => exact (Reps.c2 (show Kd.M k30 _ _ _ (⟨167772160, 9⟩ : S30) [.int .u32 167772160, .int .i64 9] from (k30_mkM _ _ _ (⟨167772160, 9⟩ : S30) )) (Reps.c2 (show Kd.M k30 _ _ _ (⟨176160768, 9⟩ : S30) [.int .u32 176160768, .int .i64 9] from (k30_mkM _ _ _ (⟨176160768, 9⟩ : S30) )) (Reps.none _ _)))); intro v145 w20 ho21 hb hg_ hnew_; clear hg_ hnew_; (first | rw [← Ny144.out] at ho21 | (simp only [Int.reduceToNat] at ho21; rw [← Ny144.out] at ho21)); have aa := Aside0.mk (Kd.R_lower ho21 (below_size (by repeat (first | (with_reducible first | exact HB.out | apply below_alloc | apply pw_below_drewN | apply below_drew1) | exact HB.out)))); replace HB := Aside0.mk (below_step (by repeat (first | (with_reducible first | exact HB.out | apply below_alloc | apply pw_below_drewN | apply below_drew1) | exact HB.out)) hb); clear hb ho21; obtain ⟨Ao22, co22, eo22⟩ := Kd.R_slice aa.out; subst eo22) | ((with_reducible refine gate_callee (f := 9) rfl ?_); refine goesL_ (some 7) rfl rfl Try.func9 (by kernel_rfl) rfl #[.slice Ao22 y144.length co22] rfl (by (try simp only [List.map_toArray, List.map_cons, List.map_nil]); first | done | rfl) ?_; (with_reducible refine (addr_Plain.calls k _ _ y144 t147 t148 _ ?side1 ?side2 A1.out).mono ?_); (case side1 => repeat (first | exact (Kd.R_reads' aa.out).2.2 | (with_reducible refine Kd.C_alloc ?_ _) | (with_reducible refine Kd.C_drewN ?_ _) | (with_reducible refine Kd.C_drew ?_))); (case side2 => exact (Kd.R_reads' aa.out).2.1); rintro e w23 ⟨v149, rfl, ho0, hb⟩; refine ⟨_, rfl, ?_⟩; have n0_ := Aside0.mk (Kd.R_elder' (by (with_reducible repeat (first | apply Kd.R_alloc | apply Kd.R_drewN | apply Kd.R_drew)); exact aa.out) (Kd.R_base ho0) hb); have n1_ := Aside0.mk (Kd.R_lower (Kd.R_new' ho0 (Kd.R_lt (by (with_reducible repeat (first | apply Kd.R_alloc | apply Kd.R_drewN | apply Kd.R_drew)); exact aa.out))) (below_size (by repeat (first | (with_reducible first | exact HB.out | apply below_alloc | apply pw_below_drewN | apply below_drew1) | exact HB.out)))); have n2_ := Aside0.mk (below_step (by repeat (first | (with_reducible first | exact HB.out | apply below_alloc | apply pw_below_drewN | apply below_drew1) | exact HB.out)) hb); clear aa; clear HB; have aa := n0_; have ab := n1_; have HB := n2_; clear n0_ n1_ n2_; (try clear hb); (try clear hb2); (try clear hk); (try clear hi); (try clear ho0)) | ((with_reducible refine gate_callee (f := 29) rfl ?_); refine goesL_ (some 11) rfl rfl Try.func29 (by kernel_rfl) rfl #[.agg #[.int .u32 167772160, .int .i64 8]] rfl (by (try simp only [List.map_toArray, List.map_cons, List.map_nil]); first | done | rfl) ?_; (with_reducible refine (addr_Text.calls k 167772160 8 t151 _ A2.out).mono ?_); rintro e w24 ⟨rfl, hb⟩; refine ⟨_, rfl, ?_⟩; replace aa := Aside0.mk (Kd.R_below (by (with_reducible repeat (first | apply Kd.R_alloc | apply Kd.R_drewN | apply Kd.R_drew)); exact aa.out) hb); replace ab := Aside0.mk (Kd.R_below (by (with_reducible repeat (first | apply Kd.R_alloc | apply Kd.R_drewN | apply Kd.R_drew)); exact ab.out) hb); replace HB := Aside0.mk (below_step (by repeat (first | (with_reducible first | exact HB.out | apply below_alloc | apply pw_below_drewN | apply below_drew1) | exact HB.out)) hb); (try clear hb); (try clear hb2); (try clear hk); (try clear hi)))
  go_ret
  exact ⟨by first | rfl | (simp [errW_none, errW_some] <;> rfl) | (simp [*, errW_none, errW_some] <;> rfl), by repeat (first | (with_reducible first | exact HB.out | apply below_alloc | apply pw_below_drewN | apply below_drew1) | exact HB.out)⟩

end Go.Proofs.Ytckffheolnmcnaa.P

end
