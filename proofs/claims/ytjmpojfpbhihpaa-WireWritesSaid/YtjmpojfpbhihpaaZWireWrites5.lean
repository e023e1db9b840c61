/- Part of the proof of RowWireWrites: what it asks of functions, words and plain facts (put together by this session's own program, wip/tools/shake.py). -/
import Derived.Test.YtjmpojfpbhihpaaZWireWrites0
import Derived.Test.YtjmpojfpbhihpaaZWireWrites1
import Derived.Test.YtjmpojfpbhihpaaZWireWrites2
import Derived.Test.YtjmpojfpbhihpaaZWireWrites3
import Derived.Test.YtjmpojfpbhihpaaZWireWrites4
import Derived.Laws.BytesString
import Derived.Laws.IdiomStrings
import Derived.Laws.BitsLemmas
import Derived.Lib.Bytes
import Derived.Recover
import Derived.WalkLawsBesides
import Derived.BigRegion
import Derived.Deep.RegionLaw
import Derived.Defers
import Derived.Tactics2
section
set_option linter.unusedVariables false
set_option linter.unusedSimpArgs false
namespace Go.Proofs.Ytjmpojfpbhihpaa
open Go.RowKit Go.Proofs.YtjmpojfpbhihpaaW.PrintWords Go.Proofs.YtjmpojfpbhihpaaW.PrintLast Go.Proofs.YtjmpojfpbhihpaaW.PrintMore

/-- with rounds enough, r comes out -/
def Evt {α : Type} (g : Nat → Option α) (r : α) : Prop := ∃ K, ∀ k, K ≤ k → g k = some r
theorem Evt.ex {α : Type} {g : Nat → Option α} {r : α} (h : Evt g r) : ∃ k, g k = some r := h.imp fun K hK => hK K (Nat.le_refl _)
theorem Evt.pure {α : Type} (r : α) : Evt (fun _ => some r) r := ⟨0, fun _ _ => rfl⟩
theorem Evt.of {α : Type} {g : Nat → Option α} {r : α} (h : ∀ k, g k = some r) : Evt g r := ⟨0, fun k _ => h k⟩
theorem Evt.bind {α β : Type} {g : Nat → Option α} {f : Nat → α → Option β} {a : α} {b : β} (h : Evt g a) (h2 : Evt (fun k => f k a) b) : Evt (fun k => (g k).bind (f k)) b := by
  obtain ⟨K, h⟩ := h
  obtain ⟨L, h2⟩ := h2
  exact ⟨max K L, fun k hk => by show (g k).bind (f k) = some b; rw [h k (by omega)]; exact h2 k (by omega)⟩
theorem Evt.bindc {α β : Type} {o : Option α} {f : Nat → α → Option β} {a : α} {b : β} (h : o = some a) (h2 : Evt (fun k => f k a) b) : Evt (fun k => o.bind (f k)) b := by
  subst h; exact h2
theorem Evt.step {α : Type} {g : Nat → Option α} {r : α} (h : Evt (fun k => g (k + 1)) r) : Evt g r := by
  obtain ⟨K, h⟩ := h
  refine ⟨K + 1, fun k hk => ?_⟩
  obtain ⟨k, rfl⟩ : ∃ m, k = m + 1 := ⟨k - 1, by omega⟩
  exact h k (by omega)
theorem Evt.ite_pos {α : Type} {c : Prop} [Decidable c] {x y : Nat → Option α} {r : α} (hc : c) (h : Evt x r) : Evt (fun k => if c then x k else y k) r := by
  simp only [if_pos hc]; exact h
theorem Evt.ite_neg {α : Type} {c : Prop} [Decidable c] {x y : Nat → Option α} {r : α} (hc : ¬ c) (h : Evt y r) : Evt (fun k => if c then x k else y k) r := by
  simp only [if_neg hc]; exact h
theorem Evt.of_mono {α : Type} {g : Nat → Option α} {r : α} {K : Nat} (hm : ∀ k, LeO (g k) (g (k + 1))) (h : g K = some r) : Evt g r := by
  refine ⟨K, fun k hk => ?_⟩
  obtain ⟨d, rfl⟩ : ∃ d, k = K + d := ⟨k - K, by omega⟩
  clear hk
  induction d with
  | zero => exact h
  | succ d ih => exact hm _ _ ih
theorem wrap64_in (x : Int) (h0 : -9223372036854775808 ≤ x) (h1 : x ≤ 9223372036854775807) : wrap64 x = x := by unfold wrap64; omega

theorem mask_not (n : Nat) (hn : n ≤ 32) : ~~~(BitVec.ofInt 32 (4294967296 - 2 ^ n)) = BitVec.ofNat 32 (2 ^ n - 1) := by
  have : ∀ n : Fin 33, ~~~(BitVec.ofInt 32 (4294967296 - 2 ^ n.val)) = BitVec.ofNat 32 (2 ^ n.val - 1) := by decide +kernel
  exact this ⟨n, by omega⟩
theorem shl_all (n : Nat) (hn : n ≤ 32) : shl .u32 4294967295 n = 4294967296 - 2 ^ n := by
  have : ∀ n : Fin 33, 0 < n.val → shl .u32 4294967295 n.val = 4294967296 - 2 ^ n.val := by decide +kernel
  rcases Nat.eq_zero_or_pos n with rfl | h
  · decide +kernel
  · exact this ⟨n, by omega⟩ h
theorem ofN (x : Nat) : BitVec.ofInt 32 (x : Int) = BitVec.ofNat 32 x := by simp
theorem andNot_mask (a : Int) (n : Nat) (h0 : 0 ≤ a) (h1 : a < 4294967296) (hn : n ≤ 32) : bits .andNot .u32 a (4294967296 - 2 ^ n) = a % 2 ^ n := by
  obtain ⟨x, rfl⟩ := Int.eq_ofNat_of_zero_le h0
  show IntKind.u32.wrap ((BitVec.ofInt 32 (x : Int) &&& ~~~ BitVec.ofInt 32 (4294967296 - 2 ^ n)).toNat : Int) = _
  rw [mask_not n hn, IntKind.wrap_u32, ofN, BitVec.toNat_and, BitVec.toNat_ofNat, BitVec.toNat_ofNat]
  have hx : x % 2 ^ 32 = x := Nat.mod_eq_of_lt (by omega)
  have hp : 2 ^ n ≤ 2 ^ 32 := Nat.pow_le_pow_right (by decide) hn
  have hpos : 0 < 2 ^ n := Nat.two_pow_pos n
  have hq : (2 ^ n - 1) % 2 ^ 32 = 2 ^ n - 1 := Nat.mod_eq_of_lt (by omega)
  rw [hx, hq, Nat.and_two_pow_sub_one_eq_mod]
  have : x % 2 ^ n < 2 ^ n := Nat.mod_lt _ hpos
  have hz : (((x % 2 ^ n : Nat) : Int)) = (x : Int) % 2 ^ n := by simp
  rw [← hz]
  omega
theorem or_join (x y : Int) (n : Nat) (hn : n ≤ 32) (hx₀ : 0 ≤ x) (hx : x % 2 ^ n = 0) (hx₁ : x < 4294967296) (hy₀ : 0 ≤ y) (hy : y < 2 ^ n) : bits .or .u32 x y = x + y := by
  have hp : (2 : Int) ^ n ≤ 2 ^ 32 := by
    have := Nat.pow_le_pow_right (n := 2) (by decide) hn
    have h2 : (((2 : Nat) ^ n : Nat) : Int) ≤ (((2 : Nat) ^ 32 : Nat) : Int) := by exact_mod_cast this
    simpa using h2
  exact bits_join .u32 32 (by decide) (fun n h0 h1 => by rw [IntKind.wrap_u32]; omega) n x y hx₀ hx (by omega) hy₀ hy (by omega)
end Go.Proofs.Ytjmpojfpbhihpaa

end
section
set_option linter.unusedVariables false
set_option linter.unusedSimpArgs false
namespace Go.Proofs.Ytjmpojfpbhihpaa.P
open Go.RowKit Go.Proofs.YtjmpojfpbhihpaaW.PrintWords Go.Proofs.YtjmpojfpbhihpaaW.PrintLast Go.Proofs.YtjmpojfpbhihpaaW.PrintMore

theorem lives_ev : Evt (fun k => whirligiglaw10_lives.f k) true := by
  refine Evt.of_mono (K := 12) (fun k => whirligiglaw10_lives.mono k) ?_
  decide +kernel
theorem son_app (a b : List Int) : strOfNums a ++ strOfNums b = strOfNums (a ++ b) := by
  unfold strOfNums
  rw [app_list, List.map_append]
/-- bytes -/
def U8 (B : List Int) : Prop := ∀ x, x ∈ B → 0 ≤ x ∧ x ≤ 255
theorem U8.drop {B : List Int} (h : U8 B) (n : Nat) : U8 (B.drop n) := fun x hx => h x (List.mem_of_mem_drop hx)
theorem U8.take {B : List Int} (h : U8 B) (n : Nat) : U8 (B.take n) := fun x hx => h x (List.mem_of_mem_take hx)
theorem U8.at {B : List Int} (h : U8 B) (i : Nat) : 0 ≤ B.getD i 0 ∧ B.getD i 0 ≤ 255 := by
  rw [List.getD_eq_getElem?_getD]
  cases hc : B[i]? with
  | none => exact ⟨by simp, by simp⟩
  | some x => exact h x (List.mem_of_getElem? hc)
theorem rd_drop (B : List Int) (at_ j : Nat) : rd B ((at_ : Int) + (j : Int)) = (B.drop at_).getD j 0 := by
  unfold rd
  rw [show ((at_ : Int) + (j : Int)).toNat = at_ + j by omega, List.getD_eq_getElem?_getD, List.getD_eq_getElem?_getD, List.getElem?_drop]
end Go.Proofs.Ytjmpojfpbhihpaa.P

end
section
namespace Go.Proofs.Ytjmpojfpbhihpaa
open Go.RowKit Go.Proofs.Ytjmpojfpbhihpaa.P Go.Proofs.YtjmpojfpbhihpaaW.PrintWords Go.Proofs.YtjmpojfpbhihpaaW.PrintLast Go.Proofs.YtjmpojfpbhihpaaW.PrintMore
set_option linter.unusedVariables false
set_option linter.unusedSimpArgs false


def wrongP : PanicEntry := { v := .iface 73 (.agg #[]), recovered := false }

structure Rdr (w0 w : World) (g : Nat) (B : List Int) (at_ : Nat) : Prop where
  lies : ∃ (A : Option Addr) (c : Nat), w.heap[g]? = some (.cells #[.slice A B.length c, .int .i64 at_] 79 (0, 0)) ∧ Kd.C (Kd.int .u8) w0 A B.length B ∧ B.length ≤ c
  base : w0.heap.size ≤ g
  below : Below w0.heap.size w0 w
  le : at_ ≤ B.length
  u8 : U8 B
  len : B.length ≤ 1000000

structure Kg (g : Nat) (w w' : World) : Prop where
  os : w'.os = w.os
  tape : w'.tape = w.tape
  output : w'.output = w.output
  size : w.heap.size ≤ w'.heap.size
  block : ∀ b, b < w.heap.size → b ≠ g → w'.heap[b]? = w.heap[b]?
theorem Kg.refl (g : Nat) (w : World) : Kg g w w := ⟨rfl, rfl, rfl, Nat.le_refl _, fun _ _ _ => rfl⟩
theorem Kg.trans {g : Nat} {a b c : World} (h : Kg g a b) (k : Kg g b c) : Kg g a c :=
  ⟨k.os.trans h.os, k.tape.trans h.tape, k.output.trans h.output, Nat.le_trans h.size k.size, fun i hi ho => (k.block i (Nat.lt_of_lt_of_le hi h.size) ho).trans (h.block i hi ho)⟩
theorem Kg.of {g : Nat} {a w : World} (h : Below a.heap.size a w) : Kg g a w := ⟨h.os, h.tape, h.output, h.size, fun i hi _ => h.block i hi⟩
theorem Kg.below {g : Nat} {w0 w w' : World} (h : Kg g w w') (hb : Below w0.heap.size w0 w) (hg : w0.heap.size ≤ g) : Below w0.heap.size w0 w' :=
  hb.trans ⟨h.os, h.tape, h.output, h.size, fun i hi => h.block i (Nat.lt_of_lt_of_le hi hb.size) (by omega)⟩
theorem Kg.set {g : Nat} {a w : World} (h : Kg g a w) (i : Nat) (u : Value) : Kg g a (w.setCell ⟨g, i, none⟩ u) :=
  ⟨h.os, h.tape, h.output, by rw [World.size_setCell]; exact h.size, fun b hb hne => (Below.heap_setCell w ⟨g, i, none⟩ u b hne).trans (h.block b hb hne)⟩

def MustE (b : Bool) (e : Ending) : Prop := if b = true then e = .returned (.tuple #[]) else e = .panicked [wrongP]
theorem must_calls (w : World) (v : Value) (b : Bool) :
    Calls Try.prog 47 #[v, .bool b] w fun e w' => MustE b e ∧ w' = w := by
  cases b with
  | true =>
    go_enter Try.func47, Try.ntmps47
    go_wp2
    exact bodyPost_end (results_none rfl _ _ _) rfl ⟨rfl, rfl⟩
  | false =>
    go_enter Try.func47, Try.ntmps47
    go_wp2
    exact ⟨rfl, rfl, rfl⟩
theorem rest_calls (w0 w : World) (g : Nat) (B : List Int) (at_ : Nat) (H : Rdr w0 w g B at_) :
    Calls Try.prog 45 #[.pointer (some ⟨g, 0, none⟩)] w fun e w' => e = .returned (.int .i64 ((B.length : Int) - at_)) ∧ ∃ n, w' = w.drewN n := by
  obtain ⟨A, c, h1, h2, h3⟩ := H.lies
  have q0 : w.cell? ⟨g, 0, none⟩ = some (.slice A B.length c) := blk_cell h1 0
  have q1 : w.cell? ⟨g, 1, none⟩ = some (.int .i64 at_) := blk_cell h1 1
  have hle := H.le
  have hln := H.len
  have hw : IntKind.i64.wrap ((B.length : Int) - at_) = (B.length : Int) - at_ := IntWalk.i64_in _ (by omega)
  clear h1 h2 h3 H
  go_enter Try.func45, Try.ntmps45
  go_wp2_with fail
  go_quiet (fail)
  go_wp2_with fail
  go_ret
  exact ⟨rfl, _, rfl⟩

def TakeE (w0 : World) (g : Nat) (B : List Int) (at_ n : Nat) (e : Ending) (w' : World) : Prop :=
  if at_ + n ≤ B.length then ∃ (A : Option Addr) (c : Nat), e = .returned (.slice A n c) ∧ Kd.C (Kd.int .u8) w0 A n ((B.drop at_).take n) ∧ n ≤ c ∧ Rdr w0 w' g B (at_ + n) else e = .panicked [wrongP]
set_option maxHeartbeats 8000000 in
set_option maxRecDepth 100000 in
theorem take_calls (w0 w : World) (g : Nat) (B : List Int) (at_ n : Nat) (hn : n ≤ 1000000) (H : Rdr w0 w g B at_) :
    Calls Try.prog 71 #[.pointer (some ⟨g, 0, none⟩), .int .i64 n] w fun e w' => TakeE w0 g B at_ n e w' ∧ Kg g w w' := by
  have hle := H.le
  have hln := H.len
  have hr := mkHid (rest_calls w0 w g B at_ H)
  have HH := mkHid H
  clear H
  by_cases hok : at_ + n ≤ B.length
  · have hd : decide ((n : Int) ≤ (B.length : Int) - at_) = true := decide_eq_true (by omega)
    obtain ⟨z, hz⟩ : ∃ z : Nat, z = at_ + n := ⟨_, rfl⟩
    obtain ⟨A, c, h1, h2, h3⟩ := HH.out.lies
    obtain ⟨i0, hi0, _, hsz0, _⟩ := info_parts info5
    obtain ⟨A', hcut, hA', hC'⟩ := print_mid_of (P := Try.prog) (Value.int .u8) 0 22 5 .i64 .i64 Try.underlying22 hi0 hsz0 A c B (at_ : Int) (z : Int) (by omega) (by omega) (by omega) h3
    have hl : ((B.take z).drop at_).length = n := by rw [List.length_drop, List.length_take]; omega
    have hsub := Kd.C_of_reads (h1 := fun _ => rfl) (hA' w0 (Kd.reads_of_C h2))
    rw [Int.toNat_natCast, Int.toNat_natCast] at hcut hsub hC'
    rw [hl] at hcut hsub hC'
    have hlist : (B.take z).drop at_ = (B.drop at_).take n := by rw [List.drop_take, show z - at_ = n by omega]
    rw [hlist] at hsub
    have HSUB := mkHid hsub
    have HCC := mkHid hC'
    have q1 : w.cell? ⟨g, 1, none⟩ = some (.int .i64 at_) := blk_cell h1 1
    have f1 : w.frozen? ⟨g, 1, none⟩ = false := blk_frozen h1 1
    have hsum : IntKind.i64.wrap ((at_ : Int) + n) = (z : Int) := by rw [IntWalk.i64_in _ (by omega)]; omega
    have hsum2 : (at_ : Int) + n = (z : Int) := by omega
    have hdif : IntKind.i64.wrap ((z : Int) - n) = (at_ : Int) := by rw [IntWalk.i64_in _ (by omega)]; omega
    have hdif2 : (z : Int) - n = (at_ : Int) := by omega
    have hwa : IntKind.i64.wrap (at_ : Int) = (at_ : Int) := IntWalk.i64_in _ (by omega)
    have k1 : ∀ m, (((w.drewN m).setCell ⟨g, 1, none⟩ (.int .i64 (z : Int))).heap[g]? = some (.cells #[.slice A B.length c, .int .i64 z] 79 (0, 0))) := fun m => blk_set (show (w.drewN m).heap[g]? = _ from h1) 1 _
    have r0 : ∀ m, ((w.drewN m).setCell ⟨g, 1, none⟩ (.int .i64 (z : Int))).cell? ⟨g, 0, none⟩ = some (.slice A B.length c) := fun m => blk_cell (k1 m) 0
    have r1 : ∀ m, ((w.drewN m).setCell ⟨g, 1, none⟩ (.int .i64 (z : Int))).cell? ⟨g, 1, none⟩ = some (.int .i64 z) := fun m => blk_cell (k1 m) 1
    have HR : Hid (∀ m m', TakeE w0 g B at_ n (.returned (.slice A' n (c - at_))) (((w.drewN m).setCell ⟨g, 1, none⟩ (.int .i64 (z : Int))).drewN m') ∧ Kg g w (((w.drewN m).setCell ⟨g, 1, none⟩ (.int .i64 (z : Int))).drewN m')) := fun m m' => by
      have hkg : Kg g w (((w.drewN m).setCell ⟨g, 1, none⟩ (.int .i64 (z : Int))).drewN m') := by
        have h := (Kg.of (g := g) (pw_below_drewN (Below.refl w.heap.size w) m)).set 1 (.int .i64 (z : Int))
        exact ⟨h.os, h.tape, h.output, h.size, h.block⟩
      refine ⟨?_, hkg⟩
      unfold TakeE
      rw [if_pos hok]
      refine ⟨A', c - at_, rfl, HSUB.out, HCC.out, ⟨⟨A, c, ?_, h2, h3⟩, HH.out.base, hkg.below HH.out.below HH.out.base, hok, HH.out.u8, hln⟩⟩
      rw [← hz]
      exact k1 m
    have HZ := mkHid hz
    have R0 := mkHid r0
    have R1 := mkHid r1
    have HSM := mkHid hsum
    have HDF := mkHid hdif2
    have HWA := mkHid hwa
    clear h1 h2 h3 hi0 hsz0 hA' hC' hl hsub hlist hz k1 r0 r1 hok hdif hdif2 hwa hsum2 hle
    go_enter Try.func71, Try.ntmps71
    go_wp2_with fail
    refine hr.out.mono ?_
    rintro e w1 ⟨rfl, ⟨n1, rfl⟩⟩
    go_wp2_with fail
    refine (must_calls _ _ true).mono ?_
    rintro e w2 ⟨he, rfl⟩
    have he' : e = .returned (.tuple #[]) := he
    subst he'
    go_upto_region 3 with fail
    have r0 := R0.out n1
    have r1 := R1.out n1
    have hsum := HSM.out
    have hdif := HDF.out
    have hwa := HWA.out
    go_quiet (fail)
    go_wp2_with fail
    go_ret
    exact HR.out _ _
  · have hd : decide ((n : Int) ≤ (B.length : Int) - at_) = false := decide_eq_false (by omega)
    have HE : Hid (∀ w', TakeE w0 g B at_ n (.panicked [wrongP]) w') := fun w' => by unfold TakeE; rw [if_neg hok]
    clear hok
    go_enter Try.func71, Try.ntmps71
    go_wp2_with fail
    refine hr.out.mono ?_
    rintro e w1 ⟨rfl, ⟨n1, rfl⟩⟩
    go_wp2_with fail
    refine (must_calls _ _ false).mono ?_
    rintro e w2 ⟨he, rfl⟩
    have he' : e = .panicked [wrongP] := he
    subst he'
    exact ⟨rfl, HE.out _, Kg.of (pw_below_drewN (Below.refl _ _) _)⟩
end Go.Proofs.Ytjmpojfpbhihpaa

end
section
namespace Go.Proofs.Ytjmpojfpbhihpaa
open Go.RowKit Go.Proofs.Ytjmpojfpbhihpaa.P Go.Proofs.YtjmpojfpbhihpaaW.PrintWords Go.Proofs.YtjmpojfpbhihpaaW.PrintLast Go.Proofs.YtjmpojfpbhihpaaW.PrintMore
set_option linter.unusedVariables false
set_option linter.unusedSimpArgs false


def beV (l : List Int) : Int := l.foldl (fun n x => n * 256 + x) 0
theorem beV_snoc (l : List Int) (x : Int) : beV (l ++ [x]) = beV l * 256 + x := by simp [beV, List.foldl_append]
theorem beV_rng : ∀ (n : Nat) (l : List Int), l.length = n → U8 l → 0 ≤ beV l ∧ beV l < 256 ^ n := by
  intro n
  induction n with
  | zero => intro l h _; rw [List.length_eq_zero_iff.1 h]; decide
  | succ n ih =>
    intro l h hu
    rcases List.eq_nil_or_concat l with rfl | ⟨l', x, rfl⟩
    · simp at h
    rw [List.concat_eq_append] at *
    have h1 := ih l' (by simpa using h) (fun y hy => hu y (by simp [hy]))
    have h2 := hu x (by simp)
    rw [beV_snoc, Int.pow_succ]
    omega

def NumE (w0 : World) (g : Nat) (B : List Int) (at_ n : Nat) (e : Ending) (w' : World) : Prop :=
  if at_ + n ≤ B.length then e = .returned (.int .i64 (beV ((B.drop at_).take n))) ∧ Rdr w0 w' g B (at_ + n) else e = .panicked [wrongP]
set_option maxHeartbeats 8000000 in
set_option maxRecDepth 100000 in
theorem number_calls (w0 w : World) (g : Nat) (B : List Int) (at_ n : Nat) (hn : n ≤ 4) (H : Rdr w0 w g B at_) :
    Calls Try.prog 43 #[.pointer (some ⟨g, 0, none⟩), .int .i64 n] w fun e w' => NumE w0 g B at_ n e w' ∧ Kg g w w' := by
  have hr := mkHid (take_calls w0 w g B at_ n (by omega) H)
  have HU := mkHid H.u8
  by_cases hok : at_ + n ≤ B.length
  · have HOK := mkHid hok
    clear hok H
    go_enter Try.func43, Try.ntmps43
    go_wp2_with fail
    refine hr.out.mono ?_
    rintro e w1 ⟨he, hk⟩
    unfold TakeE at he
    rw [if_pos HOK.out] at he
    obtain ⟨A, c, rfl, hC, hc, hR⟩ := he
    obtain ⟨D, hD⟩ : ∃ D, D = (B.drop at_).take n := ⟨_, rfl⟩
    have hdl : D.length = n := by rw [hD, List.length_take, List.length_drop]; have := HOK.out; omega
    have hdu : U8 D := by rw [hD]; exact (HU.out.drop _).take _
    rw [← hD] at hC
    have HD := mkHid hD
    have HDL := mkHid hdl
    have HDU := mkHid hdu
    have HC := mkHid hC
    have HR := mkHid hR
    have HK := mkHid hk
    clear hD hdl hdu hC hR hk
    go_wp2_with fail
    go_loopg [5, 12] n (fun kq v5 v12 wr => ∃ i : Nat, v12 = .int .i64 i ∧ i ≤ n ∧ i + kq = n ∧ v5 = .int .i64 (beV (D.take i)) ∧ Hid (wr = w1))
    case atStart => exact ⟨0, rfl, by omega, by omega, rfl, rfl⟩
    case round =>
      obtain ⟨i, rfl, hi, hk, rfl, hw⟩ := hrel
      have hw' := hw.out
      subst hw'
      by_cases hil : i < n
      · obtain ⟨x, hx⟩ : ∃ x, D[i]? = some x := ⟨_, List.getElem?_eq_getElem (h := by have := HDL.out; omega)⟩
        obtain ⟨b, o, hA, _, hcells⟩ := C_at (Kd.C_below HC.out HR.out.below) (by decide) (by omega)
        subst hA
        obtain ⟨cs, hcl, hcK, hcc⟩ := hcells i x hx
        have hd : wr.cell? ⟨b, o + i, none⟩ = some (.int .u8 x) := by
          obtain rfl : cs = [.int .u8 x] := hcK
          have := hcc 0 _ rfl
          simpa [Kd.int, Kd.scalar] using this
        have hxu := HDU.out x (List.mem_of_getElem? hx)
        obtain ⟨v, hv⟩ : ∃ v, v = beV (D.take i) := ⟨_, rfl⟩
        have hvr : 0 ≤ v ∧ v < 4294967296 := by
          have h := beV_rng i (D.take i) (by rw [List.length_take]; have := HDL.out; omega) (HDU.out.take i)
          rw [hv]
          refine ⟨h.1, Int.lt_of_lt_of_le h.2 ?_⟩
          have : (256 : Nat) ^ i ≤ 256 ^ 4 := Nat.pow_le_pow_right (by decide) (by omega)
          have e1 : ((256 ^ i : Nat) : Int) = 256 ^ i := by simp
          have e2 : ((256 ^ 4 : Nat) : Int) = 4294967296 := by decide
          omega
        have hts : beV (D.take (i + 1)) = v * 256 + x := by rw [List.take_add_one, hx, hv]; exact beV_snoc _ _
        have hwi : IntKind.i64.wrap ((i : Int) + 1) = ((i + 1 : Nat) : Int) := by rw [IntWalk.i64_in _ (by omega)]; omega
        rw [← hv]
        have HTS := mkHid hts
        clear hcells hcl hcK hcc hx hts hv
        have hor : Go.bits .or .i64 (v * 256) x = v * 256 + x := bits_join .i64 63 (by decide) (fun n h0 h1 => IntWalk.i64_in n (by omega)) 8 (v * 256) x (by omega) (by omega) (by omega) (by omega) (by omega) (by omega)
        rw [← HTS.out] at hor
        have HOR := mkHid hor
        clear hor
        go_wp2_with fail
        rw [HOR.out]
        go_roundg (gk - 1)
        case measure => omega
        case rel => exact ⟨i + 1, by rw [show ((i + 1 : Nat) : Int) = (i : Int) + 1 from rfl], by omega, by omega, rfl, mkHid rfl⟩
      · have hin : i = n := by omega
        subst hin
        have HV : Hid (beV (D.take i) = beV D) := mkHid (by rw [List.take_of_length_le (Nat.le_of_eq HDL.out)])
        have HN : Hid (NumE w0 g B at_ i (.returned (.int .i64 (beV (D.take i)))) wr) := mkHid (by unfold NumE; rw [if_pos HOK.out, HV.out, HD.out]; exact ⟨rfl, HR.out⟩)
        go_wp2_with fail
        go_ret
        exact ⟨HN.out, HK.out⟩
  · have HE : Hid (∀ w', NumE w0 g B at_ n (.panicked [wrongP]) w') := mkHid (fun w' => by unfold NumE; rw [if_neg hok])
    have HOK := mkHid hok
    clear hok H
    go_enter Try.func43, Try.ntmps43
    go_wp2_with fail
    refine hr.out.mono ?_
    rintro e w1 ⟨he, hk⟩
    unfold TakeE at he
    rw [if_neg HOK.out] at he
    subst he
    exact ⟨rfl, HE.out _, hk⟩
end Go.Proofs.Ytjmpojfpbhihpaa

end
section
namespace Go.Proofs.Ytjmpojfpbhihpaa
open Go.RowKit Go.Proofs.Ytjmpojfpbhihpaa.P Go.Proofs.YtjmpojfpbhihpaaW.PrintWords Go.Proofs.YtjmpojfpbhihpaaW.PrintLast Go.Proofs.YtjmpojfpbhihpaaW.PrintMore
set_option linter.unusedVariables false
set_option linter.unusedSimpArgs false


def PartE (w0 : World) (g : Nat) (B : List Int) (at_ n s : Nat) (e : Ending) (w' : World) : Prop :=
  if at_ + n ≤ B.length then ∃ g2 : Nat, s ≤ g2 ∧ e = .returned (.pointer (some ⟨g2, 0, none⟩)) ∧ Rdr w0 w' g2 ((B.drop at_).take n) 0 ∧ Rdr w0 w' g B (at_ + n) else e = .panicked [wrongP]
theorem Rdr.kg {w0 w w' : World} {g h : Nat} {B : List Int} {at_ : Nat} (H : Rdr w0 w g B at_) (hk : Kg h w w') (hb : w0.heap.size ≤ h) (hne : g ≠ h) : Rdr w0 w' g B at_ := by
  obtain ⟨A, c, h1, h2, h3⟩ := H.lies
  refine ⟨⟨A, c, ?_, h2, h3⟩, H.base, hk.below H.below hb, H.le, H.u8, H.len⟩
  rw [hk.block g (Array.getElem?_eq_some_iff.1 h1).1 hne]; exact h1
theorem Rdr.lt {w0 w : World} {g : Nat} {B : List Int} {at_ : Nat} (H : Rdr w0 w g B at_) : g < w.heap.size := by
  obtain ⟨A, c, h1, h2, h3⟩ := H.lies
  exact (Array.getElem?_eq_some_iff.1 h1).1
set_option maxHeartbeats 8000000 in
set_option maxRecDepth 100000 in
theorem part_calls (w0 w : World) (g : Nat) (B : List Int) (at_ n : Nat) (hn : n ≤ 1000000) (H : Rdr w0 w g B at_) :
    Calls Try.prog 42 #[.pointer (some ⟨g, 0, none⟩), .int .i64 n] w fun e w' => PartE w0 g B at_ n w.heap.size e w' ∧ Kg g w w' := by
  have hr := mkHid (take_calls w0 w g B at_ n hn H)
  have HH := mkHid H
  by_cases hok : at_ + n ≤ B.length
  · have HOK := mkHid hok
    clear hok H
    go_enter Try.func42, Try.ntmps42
    go_wp2_with fail
    refine hr.out.mono ?_
    rintro e w1 ⟨he, hk⟩
    unfold TakeE at he
    rw [if_pos HOK.out] at he
    obtain ⟨A, c, rfl, hC, hc, hR⟩ := he
    have HC := mkHid hC
    have HR := mkHid hR
    have HK := mkHid hk
    clear hC hR hk
    obtain ⟨W, hW⟩ : ∃ W, W = w1.alloc (.cells #[.slice A n c, .int .i64 0] 79) := ⟨_, rfl⟩
    have hB : Below w1.heap.size w1 W := by rw [hW]; exact Below.alloc (Below.refl _ w1) (Nat.le_refl _) _
    have hnew : W.heap[w1.heap.size]? = some (.cells #[.slice A n c, .int .i64 ((0 : Nat) : Int)] 79 (0, 0)) := by rw [hW]; exact Array.getElem?_push_size
    have hlt := HR.out.lt
    have hkW : Kg g w1 W := Kg.of hB
    have hR1 : Rdr w0 W g B (at_ + n) := HR.out.kg (Kg.of (g := w1.heap.size) hB) (Nat.le_trans HH.out.base (by omega)) (by omega)
    have hR2 : Rdr w0 W w1.heap.size ((B.drop at_).take n) 0 := by
      have hl : ((B.drop at_).take n).length = n := by rw [List.length_take, List.length_drop]; have := HOK.out; omega
      refine ⟨⟨A, c, by rw [hl]; exact hnew, by rw [hl]; exact HC.out, by rw [hl]; exact hc⟩, Nat.le_trans HH.out.base (by omega), hR1.below, Nat.zero_le _, (HH.out.u8.drop _).take _, by rw [hl]; exact hn⟩
    have HF : Hid (PartE w0 g B at_ n w.heap.size (.returned (.pointer (some ⟨w1.heap.size, 0, none⟩))) W ∧ Kg g w W) := mkHid ⟨by unfold PartE; rw [if_pos HOK.out]; exact ⟨w1.heap.size, HK.out.size, rfl, hR2, hR1⟩, HK.out.trans hkW⟩
    rw [hW] at HF
    clear hW hB hnew hlt hkW hR1 hR2 W
    go_wp2_with fail
    go_ret
    exact HF.out
  · have HE : Hid (∀ w', PartE w0 g B at_ n w.heap.size (.panicked [wrongP]) w') := mkHid (fun w' => by unfold PartE; rw [if_neg hok])
    have HOK := mkHid hok
    clear hok H
    go_enter Try.func42, Try.ntmps42
    go_wp2_with fail
    refine hr.out.mono ?_
    rintro e w1 ⟨he, hk⟩
    unfold TakeE at he
    rw [if_neg HOK.out] at he
    subst he
    exact ⟨rfl, HE.out _, hk⟩
end Go.Proofs.Ytjmpojfpbhihpaa

end
section
namespace Go.Proofs.Ytjmpojfpbhihpaa
open Go.RowKit Go.Proofs.Ytjmpojfpbhihpaa.P Go.Proofs.YtjmpojfpbhihpaaW.PrintWords Go.Proofs.YtjmpojfpbhihpaaW.PrintLast Go.Proofs.YtjmpojfpbhihpaaW.PrintMore
set_option linter.unusedVariables false
set_option linter.unusedSimpArgs false


def numsV (n : Nat) : Nat → List Int → List Int
  | 0, _ => []
  | k + 1, l => numsV n k l ++ [beV ((l.drop (n * k)).take n)]
theorem numsV_len (n k : Nat) (l : List Int) : (numsV n k l).length = k := by
  induction k with
  | zero => rfl
  | succ k ih => rw [numsV, List.length_append, ih]; rfl
theorem Kg.grown {g : Nat} {w a b : World} (h : Kg g w a) (k : Below w.heap.size a b) : Kg g w b :=
  ⟨k.os.trans h.os, k.tape.trans h.tape, k.output.trans h.output, Nat.le_trans h.size k.size, fun i hi ho => (k.block i hi).trans (h.block i hi ho)⟩
theorem Rdr.grown {w0 a b : World} {g s : Nat} {B : List Int} {at_ : Nat} (H : Rdr w0 a g B at_) (k : Below s a b) (hg : g < s) : Rdr w0 b g B at_ := by
  obtain ⟨A, c, h1, h2, h3⟩ := H.lies
  have hs : w0.heap.size ≤ s := Nat.le_trans H.base (by omega)
  exact ⟨⟨A, c, (k.block g hg).trans h1, h2, h3⟩, H.base, H.below.trans ⟨k.os, k.tape, k.output, k.size, fun i hi => k.block i (by omega)⟩, H.le, H.u8, H.len⟩
theorem R_kg {α : Type} {d : Kd α} {e g : Nat} {w a b : World} {v : Value} {xs : List α} (h : d.R e a w.heap.size (fun _ => True) v xs) (k : Kg g a b) (hg : g < w.heap.size) : d.R e b w.heap.size (fun _ => True) v xs :=
  Kd.R_mono (Kd.R_step (Kd.R_bound h) (fun i hi hlt => k.block i hlt (by have := hi.2.1; omega))) (fun _ _ => trivial)
theorem info3w : (Try.prog.info? 3).map (fun i => (i.zero, i.size, i.bytes)) = some (some (.int .i64 0), 1, 8) := by kernel_rfl

def NumsE (w0 : World) (g : Nat) (B : List Int) (at_ n k r s : Nat) (e : Ending) (w' : World) : Prop :=
  if r = 0 then ∃ (A : Option Addr) (c : Nat), e = .returned (.slice A k c) ∧ Kd.R (Kd.int .i64) 3 w' s (fun _ => True) (.slice A k c) (numsV n k (B.drop at_)) ∧ Rdr w0 w' g B B.length else e = .panicked [wrongP]
set_option maxHeartbeats 8000000 in
set_option maxRecDepth 100000 in
theorem numbers_calls (w0 w : World) (g : Nat) (B : List Int) (at_ n k r : Nat) (h1 : 1 ≤ n) (hn : n ≤ 4) (hlen : at_ + n * k + r = B.length) (hrn : r < n) (H : Rdr w0 w g B at_) :
    Calls Try.prog 73 #[.pointer (some ⟨g, 0, none⟩), .int .i64 n] w fun e w' => NumsE w0 g B at_ n k r w.heap.size e w' ∧ Kg g w w' := by
  have HH := mkHid H
  have HL := mkHid hlen
  have HG := mkHid H.lt
  have HBL := mkHid H.len
  have hkB : k ≤ 1000000 := by have := H.len; have : 1 * k ≤ n * k := Nat.mul_le_mul_right k h1; omega
  clear hlen H
  go_enter Try.func73, Try.ntmps73
  go_wp2_with fail
  go_loopg [5] k (fun kq v5 wr => ∃ (i : Nat) (A : Option Addr) (ln c : Nat), v5 = .slice A ln c ∧ i ≤ k ∧ i + kq = k ∧ ln = i ∧ Hid (Kd.R (Kd.int .i64) 3 wr w.heap.size (fun _ => True) (.slice A ln c) (numsV n i (B.drop at_))) ∧ Hid (Rdr w0 wr g B (at_ + n * i)) ∧ Hid (Kg g w wr))
  case atStart => exact ⟨0, none, 0, 0, rfl, by omega, by omega, rfl, mkHid (Kd.R_nil _ _ _ _ _), HH, mkHid (Kg.refl _ _)⟩
  case round =>
    obtain ⟨i, A, ln, c, rfl, hi, hk, hln, HR, HD, HK⟩ := hrel
    subst ln
    obtain ⟨p, hp⟩ : ∃ p, p = at_ + n * i := ⟨_, rfl⟩
    have HP := mkHid hp
    have hcr := mkHid (rest_calls w0 wr g B p (by rw [hp]; exact HD.out))
    have hle : n * i ≤ n * k := Nat.mul_le_mul_left n hi
    by_cases hdone : i = k ∧ r = 0
    · obtain ⟨rfl, rfl⟩ := hdone
      have hpB : p = B.length := by have := HL.out; omega
      have hd : decide ((B.length : Int) - (p : Int) > 0) = false := decide_eq_false (by omega)
      have hd2 : ¬ p < B.length := by omega
      have HPB := mkHid hpB
      have HF : Hid (∀ w', (∃ m, w' = wr.drewN m) → NumsE w0 g B at_ n i 0 w.heap.size (.returned (.slice A i c)) w' ∧ Kg g w w') := mkHid (fun w' hw => by
        obtain ⟨m, rfl⟩ := hw
        have hb := pw_below_drewN (Below.refl wr.heap.size wr) m
        refine ⟨?_, HK.out.trans (Kg.of hb)⟩
        unfold NumsE
        rw [if_pos rfl]
        refine ⟨A, c, rfl, Kd.R_below HR.out hb, ?_⟩
        have := HD.out.kg (Kg.of (g := wr.heap.size) hb) (by have := HD.out.lt; have := HD.out.base; omega) (by have := HD.out.lt; omega)
        rwa [← HP.out, HPB.out] at this)
      clear hp hle hpB
      go_wp2_with fail
      refine hcr.out.mono ?_
      rintro e w1 ⟨rfl, ⟨m, rfl⟩⟩
      go_wp2_with fail
      go_ret
      exact HF.out _ ⟨_, rfl⟩
    · by_cases hil : i < k
      · have hle2 : n * (i + 1) ≤ n * k := Nat.mul_le_mul_left n hil
        have hmul : n * (i + 1) = n * i + n := Nat.mul_succ n i
        have hd2 : p < B.length := by have := HL.out; omega
        have hd : decide ((B.length : Int) - (p : Int) > 0) = true := decide_eq_true (by omega)
        have hok : p + n ≤ B.length := by have := HL.out; omega
        have HOK := mkHid hok
        have hpn : p + n = at_ + n * (i + 1) := by omega
        have HPN := mkHid hpn
        clear hp hle hle2 hmul hok hpn
        go_wp2_with fail
        refine hcr.out.mono ?_
        rintro e w1 ⟨rfl, ⟨m, rfl⟩⟩
        have hb0 := pw_below_drewN (Below.refl wr.heap.size wr) m
        have hR1 : Rdr w0 (wr.drewN m) g B p := by rw [HP.out]; exact HD.out.grown hb0 (HD.out.lt)
        have HK1 : Hid (Kg g w (wr.drewN m)) := mkHid (HK.out.trans (Kg.of hb0))
        have HR1 := mkHid (Kd.R_below HR.out hb0)
        have hnc := mkHid (number_calls w0 (wr.drewN m) g B p n hn hR1)
        clear hb0 hR1
        go_wp2_with fail
        refine hnc.out.mono ?_
        rintro e w2 ⟨he, hk2⟩
        unfold NumE at he
        rw [if_pos HOK.out] at he
        obtain ⟨rfl, hD2⟩ := he
        obtain ⟨x, hx⟩ : ∃ x, x = beV ((B.drop p).take n) := ⟨_, rfl⟩
        rw [← hx]
        have HX := mkHid hx
        have HD2 := mkHid hD2
        have HR2 := mkHid (R_kg HR1.out hk2 HG.out)
        have HK2 : Hid (Kg g w w2) := mkHid (HK1.out.trans hk2)
        clear hx hD2 hk2
        go_wp2_with (at_builtin; refine Kd.R_append (Kd.int .i64) (w0 := w2) w.heap.size ?a1 (.tmp 11) (.tmp 15) 38 3 (.int .i64 0) 8 ?a2 ?a3 ?a4 ?a5 ?a6 ?a7 (.slice A i c) (numsV n i (B.drop at_)) x [.int .i64 x] (fun _ => True) (fun _ => False) ?a8 ?a9 ?aP ?aE ?aF ?aO ?aB ?aS ?aL ?_; (case a1 => rfl); (case a2 => rfl); (case a3 => exact Try.underlying38); (case a4 => exact info3w); (case a5 => rfl); (case a6 => decide); (case a7 => omega); (case a8 => rfl); (case a9 => rfl); (case aP => rfl); (case aE => exact fun _ h => h.elim); (case aF => exact fun _ _ => trivial); (case aO => exact HR2.out); (case aB => exact Below.refl _ _); (case aS => exact HK2.out.size); (case aL => rw [numsV_len]; omega); intro v1 w6 hR6 hB6 _ _; obtain ⟨A4, c4, h4⟩ := Kd.R_slice hR6; obtain ⟨n4, hn4⟩ : ∃ n4 : Nat, n4 = (numsV n i (B.drop at_) ++ [x]).length := ⟨_, rfl⟩; rw [← hn4] at h4; subst h4; have HN4 := mkHid hn4; clear hn4; have HR6 := mkHid hR6; have HB6 := mkHid hB6; clear hR6 hB6)
        go_roundg (gk - 1)
        case measure => omega
        case rel =>
          have hv : numsV n (i + 1) (B.drop at_) = numsV n i (B.drop at_) ++ [x] := by rw [numsV, List.drop_drop, HX.out, HP.out]
          refine ⟨i + 1, A4, n4, c4, rfl, by omega, by omega, by rw [HN4.out, List.length_append, numsV_len]; rfl, by rw [hv]; exact HR6, ?_, mkHid (HK2.out.grown HB6.out)⟩
          rw [← HPN.out]
          exact mkHid (HD2.out.grown HB6.out HG.out)
      · have hik : i = k := by omega
        have hr0 : ¬ r = 0 := fun h => hdone ⟨hik, h⟩
        subst hik
        have hd2 : p < B.length := by have := HL.out; omega
        have hd : decide ((B.length : Int) - (p : Int) > 0) = true := decide_eq_true (by omega)
        have HOK : Hid (¬ p + n ≤ B.length) := mkHid (by have := HL.out; omega)
        have HE : Hid (∀ w', NumsE w0 g B at_ n i r w.heap.size (.panicked [wrongP]) w') := mkHid (fun w' => by unfold NumsE; rw [if_neg hr0])
        clear hp hle hr0 hdone
        go_wp2_with fail
        refine hcr.out.mono ?_
        rintro e w1 ⟨rfl, ⟨m, rfl⟩⟩
        have hb0 := pw_below_drewN (Below.refl wr.heap.size wr) m
        have hR1 : Rdr w0 (wr.drewN m) g B p := by rw [HP.out]; exact HD.out.grown hb0 (HD.out.lt)
        have HK1 : Hid (Kg g w (wr.drewN m)) := mkHid (HK.out.trans (Kg.of hb0))
        have hnc := mkHid (number_calls w0 (wr.drewN m) g B p n hn hR1)
        clear hb0 hR1
        go_wp2_with fail
        refine hnc.out.mono ?_
        rintro e w2 ⟨he, hk2⟩
        unfold NumE at he
        rw [if_neg HOK.out] at he
        subst he
        exact ⟨rfl, HE.out _, HK1.out.trans hk2⟩
end Go.Proofs.Ytjmpojfpbhihpaa

end
section
namespace Go.Proofs.Ytjmpojfpbhihpaa
open Go.RowKit Go.Proofs.Ytjmpojfpbhihpaa.P Go.Proofs.YtjmpojfpbhihpaaW.PrintWords Go.Proofs.YtjmpojfpbhihpaaW.PrintLast Go.Proofs.YtjmpojfpbhihpaaW.PrintMore
set_option linter.unusedVariables false
set_option linter.unusedSimpArgs false


def pathV (B : List Int) (at_ : Nat) : Option (List Int) :=
  if at_ = B.length then some []
  else if beV ((B.drop at_).take 1) = 2 ∧ at_ + 2 ≤ B.length ∧ (B.length - (at_ + 2)) % 2 = 0 ∧ (((B.length - (at_ + 2)) / 2 : Nat) : Int) = beV ((B.drop (at_ + 1)).take 1) then
    some (numsV 2 ((B.length - (at_ + 2)) / 2) (B.drop (at_ + 2)))
  else none

def PathE (w0 : World) (g : Nat) (B : List Int) (at_ s : Nat) (e : Ending) (w' : World) : Prop :=
  (pathV B at_ = none ∧ e = .panicked [wrongP]) ∨ ∃ (xs : List Int) (A : Option Addr) (n c : Nat), pathV B at_ = some xs ∧ n = xs.length ∧ e = .returned (.slice A n c) ∧ Kd.R (Kd.int .i64) 3 w' s (fun _ => True) (.slice A n c) xs ∧ Rdr w0 w' g B B.length
theorem must_true (w : World) (v : Value) (b : Bool) (hb : b = true) :
    Calls Try.prog 47 #[v, .bool b] w fun e w' => e = .returned (.tuple #[]) ∧ w' = w := by
  subst hb
  exact (must_calls w v true).mono (fun e w' h => ⟨h.1, h.2⟩)
theorem must_false (w : World) (v : Value) (b : Bool) (hb : b = false) :
    Calls Try.prog 47 #[v, .bool b] w fun e w' => e = .panicked [wrongP] ∧ w' = w := by
  subst hb
  exact (must_calls w v false).mono (fun e w' h => ⟨h.1, h.2⟩)
set_option maxHeartbeats 8000000 in
set_option maxRecDepth 100000 in
theorem path_calls (w0 w : World) (g : Nat) (B : List Int) (at_ : Nat) (H : Rdr w0 w g B at_) :
    Calls Try.prog 72 #[.pointer (some ⟨g, 0, none⟩)] w fun e w' => PathE w0 g B at_ w.heap.size e w' ∧ Kg g w w' := by
  have HG := mkHid H.lt
  have hcr := mkHid (rest_calls w0 w g B at_ H)
  have hle := H.le
  by_cases h0 : at_ = B.length
  · subst h0
    have hF : Hid (∀ m, PathE w0 g B B.length w.heap.size (.returned (.slice none 0 0)) (w.drewN m) ∧ Kg g w (w.drewN m)) := mkHid (fun m => by
      have hb := pw_below_drewN (Below.refl w.heap.size w) m
      exact ⟨.inr ⟨[], none, 0, 0, if_pos rfl, rfl, rfl, Kd.R_nil _ _ _ _ _, H.grown hb H.lt⟩, Kg.of hb⟩)
    have hd : decide ((B.length : Int) - (B.length : Int) = 0) = true := decide_eq_true (by omega)
    clear H
    go_enter Try.func72, Try.ntmps72
    go_wp2_with fail
    refine hcr.out.mono ?_
    rintro e w1 ⟨rfl, ⟨m, rfl⟩⟩
    go_wp2_with fail
    go_ret
    exact hF.out _
  · have hd : decide ((B.length : Int) - (at_ : Int) = 0) = false := decide_eq_false (by omega)
    have hd2 : ¬ (B.length : Int) = (at_ : Int) := by omega
    have hd3 : ¬ B.length = at_ := by omega
    have hd4 : ¬ (B.length : Int) - (at_ : Int) = 0 := by omega
    have hN : Hid ((¬ (beV ((B.drop at_).take 1) = 2 ∧ at_ + 2 ≤ B.length ∧ (B.length - (at_ + 2)) % 2 = 0 ∧ (((B.length - (at_ + 2)) / 2 : Nat) : Int) = beV ((B.drop (at_ + 1)).take 1))) → ∀ w', PathE w0 g B at_ w.heap.size (.panicked [wrongP]) w') := mkHid (fun h w' => .inl ⟨by unfold pathV; rw [if_neg h0, if_neg h], rfl⟩)
    have HH := mkHid H
    have HLT : Hid (at_ + 1 ≤ B.length) := mkHid (by omega)
    have H0 := mkHid h0
    clear hle h0 H
    go_enter Try.func72, Try.ntmps72
    go_wp2_with fail
    refine hcr.out.mono ?_
    rintro e w1 ⟨rfl, ⟨m, rfl⟩⟩
    have hb0 := pw_below_drewN (Below.refl w.heap.size w) m
    have hn1 := mkHid (number_calls w0 (w.drewN m) g B at_ 1 (by decide) (HH.out.grown hb0 HH.out.lt))
    have HK1 : Hid (Kg g w (w.drewN m)) := mkHid (Kg.of hb0)
    clear hb0
    go_wp2_with fail
    refine hn1.out.mono ?_
    rintro e w2 ⟨he, hk⟩
    unfold NumE at he
    rw [if_pos HLT.out] at he
    obtain ⟨rfl, hD2⟩ := he
    obtain ⟨x, hx⟩ : ∃ x, x = beV ((B.drop at_).take 1) := ⟨_, rfl⟩
    rw [← hx]
    have HX := mkHid hx
    have HD2 := mkHid hD2
    have HK2 : Hid (Kg g w w2) := mkHid (HK1.out.trans hk)
    clear hx hD2 hk
    by_cases h2 : x = 2
    · subst h2
      go_wp2_with fail
      refine (must_true _ _ _ (by first | rfl | decide)).mono ?_
      rintro e w3 ⟨rfl, rfl⟩
      have hn2 := mkHid (number_calls w0 w3 g B (at_ + 1) 1 (by decide) HD2.out)
      go_wp2_with fail
      refine hn2.out.mono ?_
      rintro e w4 ⟨he, hk⟩
      unfold NumE at he
      by_cases hlt2 : at_ + 1 + 1 ≤ B.length
      · rw [if_pos hlt2] at he
        obtain ⟨rfl, hD4⟩ := he
        obtain ⟨y, hy⟩ : ∃ y, y = beV ((B.drop (at_ + 1)).take 1) := ⟨_, rfl⟩
        rw [← hy]
        have HY := mkHid hy
        have HLT2 := mkHid hlt2
        have HK4 : Hid (Kg g w w4) := mkHid (HK2.out.trans hk)
        obtain ⟨k, hkk⟩ : ∃ k, k = (B.length - (at_ + 2)) / 2 := ⟨_, rfl⟩
        obtain ⟨r, hr⟩ : ∃ r, r = (B.length - (at_ + 2)) % 2 := ⟨_, rfl⟩
        have hn3 := mkHid (numbers_calls w0 w4 g B (at_ + 2) 2 k r (by decide) (by decide) (by omega) (by omega) hD4)
        have HKK := mkHid hkk
        have HRR := mkHid hr
        have HG4 := HK4.out.size
        clear hy hlt2 hD4 hk hkk hr
        go_wp2_with fail
        refine hn3.out.mono ?_
        rintro e w5 ⟨he, hk⟩
        unfold NumsE at he
        have HK5 : Hid (Kg g w w5) := mkHid (HK4.out.trans hk)
        clear hk
        by_cases hr0 : r = 0
        · rw [if_pos hr0] at he
          obtain ⟨A, c, rfl, hR5, hD5⟩ := he
          have HR5 := mkHid (Kd.R_lower hR5 HG4)
          have HD5 := mkHid hD5
          have HR0 := mkHid hr0
          clear hR5 hD5 HG4
          by_cases hky : (k : Int) = y
          · have hdk : decide ((k : Int) = y) = true := decide_eq_true hky
            have hF : Hid (PathE w0 g B at_ w.heap.size (.returned (.slice A k c)) w5 ∧ Kg g w w5) := mkHid ⟨.inr ⟨numsV 2 k (B.drop (at_ + 2)), A, k, c, by
              unfold pathV
              rw [if_neg H0.out, if_pos ⟨HX.out.symm, HLT2.out, by rw [← HRR.out]; exact HR0.out, by rw [← HKK.out, ← HY.out]; exact hky⟩, ← HKK.out], (numsV_len _ _ _).symm, rfl, HR5.out, HD5.out⟩, HK5.out⟩
            have HDK := mkHid hdk
            clear hdk hky hr0
            go_wp2_with fail
            refine (must_true _ _ _ (by first | exact HDK.out | exact decide_eq_true (of_decide_eq_true HDK.out))).mono ?_
            rintro e w6 ⟨rfl, rfl⟩
            go_wp2_with fail
            go_ret
            exact hF.out
          · have hdk : decide ((k : Int) = y) = false := decide_eq_false hky
            have HDK := mkHid hdk
            have HKY := mkHid hky
            clear hdk hky hr0
            go_wp2_with fail
            refine (must_false _ _ _ (by first | exact HDK.out | exact decide_eq_false (of_decide_eq_false HDK.out))).mono ?_
            rintro e w6 ⟨rfl, rfl⟩
            exact ⟨rfl, hN.out (fun h => HKY.out (by rw [HKK.out, HY.out]; exact h.2.2.2)) _, HK5.out⟩
        · rw [if_neg hr0] at he
          subst he
          exact ⟨rfl, hN.out (fun h => hr0 (HRR.out.trans h.2.2.1)) _, HK5.out⟩
      · rw [if_neg hlt2] at he
        subst he
        exact ⟨rfl, hN.out (fun h => hlt2 h.2.1) _, HK2.out.trans hk⟩
    · have hdx : decide (x = 2) = false := decide_eq_false h2
      go_wp2_with fail
      refine (must_false _ _ _ (by first | rfl | exact hdx)).mono ?_
      rintro e w3 ⟨rfl, rfl⟩
      exact ⟨rfl, hN.out (fun h => h2 (HX.out.trans h.1)) _, HK2.out⟩
end Go.Proofs.Ytjmpojfpbhihpaa

end
section
set_option linter.unusedVariables false
set_option linter.unusedSimpArgs false
namespace Go.Proofs.Ytjmpojfpbhihpaa.P
open Go.RowKit Go.Proofs.YtjmpojfpbhihpaaW.PrintWords Go.Proofs.YtjmpojfpbhihpaaW.PrintLast Go.Proofs.YtjmpojfpbhihpaaW.PrintMore

/-- how many addresses a prefix of so many bits has -/
def un (b : Int) : Int := 2 ^ (32 - b).toNat
theorem un_pos (b : Int) : 0 < un b := by
  unfold un
  have := Nat.two_pow_pos (32 - b).toNat
  have h2 : (0 : Int) < (((2 : Nat) ^ (32 - b).toNat : Nat) : Int) := by exact_mod_cast this
  simpa using h2
theorem un_succ (b : Int) (h : b < 32) : un b = 2 * un (b + 1) := by
  unfold un
  rw [show (32 - b).toNat = (32 - (b + 1)).toNat + 1 by omega, Int.pow_succ]; omega
/-- an address -/
def isA (a : Int) : Prop := 0 ≤ a ∧ a ≤ 4294967295
/-- may a prefix be? -/
def mayB (a b : Int) : Bool := decide (0 ≤ b) && (decide (b ≤ 32) && decide (a % un b = 0))
theorem mayB_iff (a b : Int) : mayB a b = true ↔ 0 ≤ b ∧ b ≤ 32 ∧ a % un b = 0 := by
  unfold mayB; simp
theorem mask_is (b : Int) (h0 : 0 ≤ b) (h1 : b ≤ 32) : addr_mask.f b = some (4294967296 - un b) := by
  unfold addr_mask.f
  by_cases h : b = 0
  · subst h; rfl
  · rw [if_neg h, wrap64_in _ (by omega) (by omega), if_pos (by omega)]
    have := shl_all (32 - b).toNat (by omega)
    rw [show (((32 - b).toNat : Nat) : Int) = 32 - b by omega] at this
    rw [this]; rfl
theorem may_is (a b : Int) (ha : isA a) : addr_May.f a b = some (mayB a b) := by
  unfold addr_May.f mayB
  by_cases h0 : 0 ≤ b
  · rw [if_pos h0]
    by_cases h1 : b ≤ 32
    · rw [if_pos h1, mask_is b h0 h1, Option.bind_some]
      have := andNot_mask a (32 - b).toNat ha.1 (by have := ha.2; omega) (by omega)
      unfold un
      rw [this]
      simp [h0, h1]
      rfl
    · rw [if_neg h1]; simp [h0, h1]
  · rw [if_neg h0]; simp [h0]
end Go.Proofs.Ytjmpojfpbhihpaa.P

end
section
set_option linter.unusedVariables false
set_option linter.unusedSimpArgs false
namespace Go.Proofs.Ytjmpojfpbhihpaa.P
open Go.RowKit Go.Proofs.YtjmpojfpbhihpaaW.PrintWords Go.Proofs.YtjmpojfpbhihpaaW.PrintLast Go.Proofs.YtjmpojfpbhihpaaW.PrintMore

/-- the bit of an address at a place -/
def bitI (a i : Int) : Int := a / un (i + 1) % 2
theorem bit_ev : ∀ (d : Nat) (a i : Int), 0 ≤ a → a ≤ 4294967295 → 0 ≤ i → i ≤ 31 → 31 - i = d → Evt (fun k => whirligigref01_Bit.l0 k a i) (bitI a i) := by
  intro d
  induction d with
  | zero =>
    intro a i h0 h1 h2 h3 hd
    obtain rfl : i = 31 := by omega
    refine Evt.step ?_
    simp only [whirligigref01_Bit.l0]
    refine Evt.ite_neg (by omega) (Evt.of fun k => ?_)
    unfold bitI un
    rw [Int.tmod_eq_emod_of_nonneg h0]
    simp
  | succ d ih =>
    intro a i h0 h1 h2 h3 hd
    refine Evt.step ?_
    simp only [whirligigref01_Bit.l0]
    refine Evt.ite_pos (by omega) ?_
    rw [Int.tdiv_eq_ediv_of_nonneg h0, wrap64_in _ (by omega) (by omega), Int.emod_eq_of_lt (by omega) (by omega)]
    have := ih (a / 2) (i + 1) (by omega) (by omega) (by omega) (by omega) (by omega)
    have e : bitI (a / 2) (i + 1) = bitI a i := by
      unfold bitI
      rw [un_succ (i + 1) (by omega), Int.ediv_ediv_of_nonneg (by decide)]
    rw [e] at this
    exact this
theorem refBit_ev (a i : Int) (ha : isA a) (h2 : 0 ≤ i) (h3 : i ≤ 31) : Evt (fun k => whirligigref01_Bit.f k a i) (bitI a i) :=
  bit_ev (31 - i).toNat a i ha.1 ha.2 h2 h3 (by omega)
theorem mod_un (a i : Int) (h : 0 ≤ a) (h1 : i ≤ 31) : a % un i = a % un (i + 1) + un (i + 1) * bitI a i := by
  have hp := un_pos (i + 1)
  rw [un_succ i (by omega)]
  unfold bitI
  have e1 := Int.emod_add_mul_ediv a (un (i + 1))
  have e2 := Int.emod_add_mul_ediv a (2 * un (i + 1))
  have e3 := Int.emod_add_mul_ediv (a / un (i + 1)) 2
  have e4 : a / un (i + 1) / 2 = a / (2 * un (i + 1)) := by rw [Int.ediv_ediv_of_nonneg (Int.le_of_lt hp), Int.mul_comm]
  rw [e4] at e3
  generalize a / (2 * un (i + 1)) = q at *
  generalize a / un (i + 1) % 2 = s at *
  generalize a / un (i + 1) = p at *
  generalize un (i + 1) = u at *
  have e5 : u * p = u * s + 2 * u * q := by
    rw [← e3, Int.mul_add, ← Int.mul_assoc, Int.mul_comm u 2]
  omega
theorem refMayLoop_ev : ∀ (d : Nat) (a i b : Int), isA a → 0 ≤ i → i ≤ 32 → 32 - i = d → Evt (fun k => whirligigref01_May.l0 k i a b) (decide (a % un i = 0)) := by
  intro d
  induction d with
  | zero =>
    intro a i b ha h0 h1 hd
    obtain rfl : i = 32 := by omega
    refine Evt.step ?_
    simp only [whirligigref01_May.l0]
    refine Evt.ite_neg (by omega) (Evt.of fun k => ?_)
    have : a % un 32 = 0 := by show a % 1 = 0; omega
    rw [this]; rfl
  | succ d ih =>
    intro a i b ha h0 h1 hd
    refine Evt.step ?_
    simp only [whirligigref01_May.l0]
    refine Evt.ite_pos (by omega) ?_
    refine Evt.bind (refBit_ev a i ha h0 (by omega)) ?_
    have hm := mod_un a i ha.1 (by omega)
    have hp := un_pos (i + 1)
    have hr : 0 ≤ a % un (i + 1) := Int.emod_nonneg _ (by omega)
    by_cases hb : bitI a i = 0
    · refine Evt.ite_pos hb ?_
      rw [wrap64_in _ (by omega) (by omega)]
      have := ih a (i + 1) b ha (by omega) (by omega) (by omega)
      rw [hb, Int.mul_zero, Int.add_zero] at hm
      rw [hm]; exact this
    · refine Evt.ite_neg hb (Evt.of fun k => ?_)
      have hb1 : bitI a i = 1 := by unfold bitI at *; omega
      rw [hb1, Int.mul_one] at hm
      rw [decide_eq_false (by omega)]
theorem refMay_ev (a b : Int) (ha : isA a) : Evt (fun k => whirligigref01_May.f k a b) (mayB a b) := by
  unfold whirligigref01_May.f mayB
  by_cases h0 : b < 0
  · refine Evt.ite_pos h0 (Evt.step ?_)
    simp only [whirligigref01_May.j0]
    refine Evt.ite_pos (by simp) (Evt.of fun k => ?_)
    rw [decide_eq_false (by omega : ¬ 0 ≤ b)]; rfl
  · refine Evt.ite_neg h0 (Evt.step ?_)
    simp only [whirligigref01_May.j0]
    by_cases h1 : b > 32
    · refine Evt.ite_pos (decide_eq_true h1) (Evt.of fun k => ?_)
      rw [decide_eq_false (by omega : ¬ b ≤ 32)]; simp
    · refine Evt.ite_neg (by simpa using h1) ?_
      have := refMayLoop_ev (32 - b).toNat a b b ha (by omega) (by omega) (by omega)
      rw [decide_eq_true (by omega : 0 ≤ b), decide_eq_true (by omega : b ≤ 32)]
      exact this
end Go.Proofs.Ytjmpojfpbhihpaa.P

end
section
set_option linter.unusedVariables false
set_option linter.unusedSimpArgs false
namespace Go.Proofs.Ytjmpojfpbhihpaa.P
open Go.RowKit Go.Proofs.YtjmpojfpbhihpaaW.PrintWords Go.Proofs.YtjmpojfpbhihpaaW.PrintLast Go.Proofs.YtjmpojfpbhihpaaW.PrintMore

/-- an address out of its first bytes -/
def pa (D : List Int) : Nat → Int
  | 0 => 0
  | i + 1 => pa D i + D.getD i 0 * 2 ^ (24 - 8 * i)
/-- how many bytes so many bits take -/
def nb (b : Int) : Nat := ((b + 7) / 8).toNat
theorem nb_le (b : Int) (h0 : 0 ≤ b) (h1 : b ≤ 32) : nb b ≤ 4 := by unfold nb; omega
def fin4 (at_ a b : Int) : Int × Int × Int × Int := if mayB a b = true then (a, b, at_ + 1 + (nb b : Int), 0) else (0, 0, 0, 4)
/-- the prefix that stands at a place -/
def takeL (B : List Int) (at_ : Nat) : Int × Int × Int × Int :=
  if B.length ≤ at_ then (0, 0, 0, 3) else if B.getD at_ 0 > 32 then (0, 0, 0, 4) else
  if B.length < at_ + 1 + nb (B.getD at_ 0) then (0, 0, 0, 3) else fin4 at_ (pa (B.drop (at_ + 1)) (nb (B.getD at_ 0))) (B.getD at_ 0)
theorem pa_four (D : List Int) (hD : U8 D) : (pa D 0 = 0) ∧ (pa D 1 = D.getD 0 0 * 16777216) ∧ (pa D 2 = D.getD 0 0 * 16777216 + D.getD 1 0 * 65536) ∧ (pa D 3 = D.getD 0 0 * 16777216 + D.getD 1 0 * 65536 + D.getD 2 0 * 256) ∧ (pa D 4 = D.getD 0 0 * 16777216 + D.getD 1 0 * 65536 + D.getD 2 0 * 256 + D.getD 3 0) := by
  simp [pa]
theorem pa_isA (D : List Int) (hD : U8 D) (n : Nat) (h : n ≤ 4) : isA (pa D n) := by
  obtain ⟨p0, p1, p2, p3, p4⟩ := pa_four D hD
  have u0 := hD.at 0
  have u1 := hD.at 1
  have u2 := hD.at 2
  have u3 := hD.at 3
  unfold isA
  match n, h with
  | 0, _ => rw [p0]; omega
  | 1, _ => rw [p1]; omega
  | 2, _ => rw [p2]; omega
  | 3, _ => rw [p3]; omega
  | 4, _ => rw [p4]; omega
theorem or_step (D : List Int) (hD : U8 D) (i : Nat) (h : i < 4) : Go.bits .or .u32 (pa D i) (shl .u32 ((D.getD i 0) % 4294967296) (wrap64 (24 - (wrap64 (8 * (i : Int)))))) = pa D (i + 1) := by
  obtain ⟨p0, p1, p2, p3, p4⟩ := pa_four D hD
  have u0 := hD.at 0
  have u1 := hD.at 1
  have u2 := hD.at 2
  have u3 := hD.at 3
  rw [wrap64_in (8 * (i : Int)) (by omega) (by omega), wrap64_in (24 - 8 * (i : Int)) (by omega) (by omega)]
  match i, h with
  | 0, _ =>
    have e : shl .u32 ((D.getD 0 0) % 4294967296) (24 - 8 * ((0 : Nat) : Int)) = D.getD 0 0 * 16777216 := by
      show IntKind.u32.wrap ((D.getD 0 0) % 4294967296 * 2 ^ 24) = _
      rw [IntKind.wrap_u32]; omega
    rw [e, p0, p1]
    rw [or_join 0 (D.getD 0 0 * 16777216) 32 (by omega) (by omega) (by decide) (by omega) (by omega) (by omega)]; omega
  | 1, _ =>
    have e : shl .u32 ((D.getD 1 0) % 4294967296) (24 - 8 * ((1 : Nat) : Int)) = D.getD 1 0 * 65536 := by
      show IntKind.u32.wrap ((D.getD 1 0) % 4294967296 * 2 ^ 16) = _
      rw [IntKind.wrap_u32]; omega
    rw [e, p1, p2]
    exact or_join _ _ 24 (by omega) (by omega) (by omega) (by omega) (by omega) (by omega)
  | 2, _ =>
    have e : shl .u32 ((D.getD 2 0) % 4294967296) (24 - 8 * ((2 : Nat) : Int)) = D.getD 2 0 * 256 := by
      show IntKind.u32.wrap ((D.getD 2 0) % 4294967296 * 2 ^ 8) = _
      rw [IntKind.wrap_u32]; omega
    rw [e, p2, p3]
    exact or_join _ _ 16 (by omega) (by omega) (by omega) (by omega) (by omega) (by omega)
  | 3, _ =>
    have e : shl .u32 ((D.getD 3 0) % 4294967296) (24 - 8 * ((3 : Nat) : Int)) = D.getD 3 0 := by
      show IntKind.u32.wrap ((D.getD 3 0) % 4294967296 * 2 ^ 0) = _
      rw [IntKind.wrap_u32]; omega
    rw [e, p3, p4]
    exact or_join _ _ 8 (by omega) (by omega) (by omega) (by omega) (by omega) (by omega)
theorem wtLoop_ev (B : List Int) (hB : B.length ≤ 100000) (hu : U8 B) (at_ n : Nat) (hn : n ≤ 4) (hl : at_ + 1 + n ≤ B.length) (b : Int) (hb : nb b = n) : ∀ (d i : Nat), n - i = d → i ≤ n →
    Evt (fun k => wire_Take.l0 k B (at_ : Int) (n : Int) (n : Int) (i : Int) (pa (B.drop (at_ + 1)) i) b) (fin4 at_ (pa (B.drop (at_ + 1)) n) b) := by
  have hD := hu.drop (at_ + 1)
  intro d
  induction d with
  | zero =>
    intro i hd hi
    obtain rfl : i = n := by omega
    refine Evt.step ?_
    simp only [wire_Take.l0]
    have hA := pa_isA _ hD i hn
    refine Evt.ite_neg (by omega) (Evt.bindc (may_is _ b hA) ?_)
    by_cases hm : mayB (pa (B.drop (at_ + 1)) i) b = true
    · have hf : fin4 (at_ : Int) (pa (B.drop (at_ + 1)) i) b = (pa (B.drop (at_ + 1)) i, b, (at_ : Int) + 1 + (nb b : Int), 0) := if_pos hm
      rw [hf]
      refine Evt.ite_pos hm ?_
      rw [wrap64_in ((at_ : Int) + 1) (by omega) (by omega), wrap64_in ((at_ : Int) + 1 + (i : Int)) (by omega) (by omega), hb]
      exact Evt.pure _
    · have hf : fin4 (at_ : Int) (pa (B.drop (at_ + 1)) i) b = (0, 0, 0, 4) := if_neg hm
      rw [hf]; exact Evt.ite_neg hm (Evt.pure _)
  | succ d ih =>
    intro i hd hi
    have hi1 := ih (i + 1) (by omega) (by omega)
    refine Evt.step ?_
    simp only [wire_Take.l0]
    have hr : rd B ((at_ : Int) + 1 + (i : Int)) = (B.drop (at_ + 1)).getD i 0 := by
      rw [show (at_ : Int) + 1 + (i : Int) = ((at_ + 1 : Nat) : Int) + (i : Int) by omega]; exact rd_drop B (at_ + 1) i
    rw [wrap64_in ((at_ : Int) + 1) (by omega) (by omega), wrap64_in ((at_ : Int) + 1 + (i : Int)) (by omega) (by omega), wrap64_in ((i : Int) + 1) (by omega) (by omega), hr, or_step _ hD i (by omega)]
    refine Evt.ite_pos (by omega) (Evt.ite_pos (by omega) (Evt.ite_pos (by omega) (Evt.ite_pos ?_ ?_)))
    · rw [wrap64_in (8 * (i : Int)) (by omega) (by omega), wrap64_in (24 - 8 * (i : Int)) (by omega) (by omega)]; omega
    · rw [show (i : Int) + 1 = ((i + 1 : Nat) : Int) by omega]; exact hi1
theorem rd_nat (B : List Int) (i : Nat) : rd B (i : Int) = B.getD i 0 := by unfold rd; rw [Int.toNat_natCast]
theorem nb_is (b : Int) (h0 : 0 ≤ b) (h1 : b ≤ 32) : wrap64 (Int.tdiv (wrap64 (b + 7)) 8) = (nb b : Int) := by
  rw [wrap64_in (b + 7) (by omega) (by omega), Int.tdiv_eq_ediv_of_nonneg (by omega), wrap64_in _ (by omega) (by omega)]
  unfold nb; omega
theorem wtTake_ev (B : List Int) (hB : B.length ≤ 100000) (hu : U8 B) (at_ : Nat) (hat : at_ ≤ 9223372036854775807) : Evt (fun k => wire_Take.f k B (at_ : Int)) (takeL B at_) := by
  have u := hu.at at_
  unfold wire_Take.f takeL
  refine Evt.ite_neg (by omega) (Evt.step ?_)
  simp only [wire_Take.j0]
  by_cases h : B.length ≤ at_
  · rw [if_pos h]
    exact Evt.ite_pos (decide_eq_true (by omega)) (Evt.pure _)
  · rw [if_neg h, rd_nat, wrap64_in (B.getD at_ 0) (by omega) (by omega)]
    refine Evt.ite_neg (by rw [decide_eq_false (by omega)]; simp) (Evt.ite_pos (by omega) (Evt.ite_pos (by omega) ?_))
    by_cases h2 : B.getD at_ 0 > 32
    · rw [if_pos h2]; exact Evt.ite_pos h2 (Evt.pure _)
    · rw [if_neg h2]
      refine Evt.ite_neg h2 ?_
      have hn := nb_le _ u.1 (by omega)
      rw [nb_is _ u.1 (by omega), wrap64_in ((B.length : Int) - (at_ : Int)) (by omega) (by omega), wrap64_in ((B.length : Int) - (at_ : Int) - 1) (by omega) (by omega)]
      by_cases h3 : B.length < at_ + 1 + nb (B.getD at_ 0)
      · rw [if_pos h3]; exact Evt.ite_pos (by omega) (Evt.pure _)
      · rw [if_neg h3]
        refine Evt.ite_neg (by omega) ?_
        exact wtLoop_ev B hB hu at_ _ hn (by omega) _ rfl _ 0 rfl (by omega)
/-- a number's four bytes -/
def be4 (a : Int) : List Int := [a / 16777216 % 256, a / 65536 % 256, a / 256 % 256, a % 256]
theorem number4_ev (a : Int) (ha : isA a) : Evt (fun k => wire_number.f k ([] : List Int) a 4) (be4 a) := by
  obtain ⟨h0, h1⟩ := ha
  unfold wire_number.f
  rw [show wrap64 (4 - 1) = 3 from by unfold wrap64; omega]
  have s3 : shr .i64 a (wrap64 (8 * 3)) = a / 16777216 := by rw [show wrap64 (8 * 3) = 24 from by unfold wrap64; omega]; rfl
  have s2 : shr .i64 a (wrap64 (8 * 2)) = a / 65536 := by rw [show wrap64 (8 * 2) = 16 from by unfold wrap64; omega]; rfl
  have s1 : shr .i64 a (wrap64 (8 * 1)) = a / 256 := by rw [show wrap64 (8 * 1) = 8 from by unfold wrap64; omega]; rfl
  have s0 : shr .i64 a (wrap64 (8 * 0)) = a := by rw [show wrap64 (8 * 0) = 0 from by unfold wrap64; omega]; show a / 1 = a; omega
  refine Evt.step ?_
  simp only [wire_number.l0]
  refine Evt.ite_pos (by omega) (Evt.ite_pos (by unfold wrap64; omega) (Evt.ite_pos (by simp) ?_))
  rw [s3, show wrap64 (3 - 1) = 2 from by unfold wrap64; omega]
  refine Evt.step ?_
  simp only [wire_number.l0]
  refine Evt.ite_pos (by omega) (Evt.ite_pos (by unfold wrap64; omega) (Evt.ite_pos (by simp) ?_))
  rw [s2, show wrap64 (2 - 1) = 1 from by unfold wrap64; omega]
  refine Evt.step ?_
  simp only [wire_number.l0]
  refine Evt.ite_pos (by omega) (Evt.ite_pos (by unfold wrap64; omega) (Evt.ite_pos (by simp) ?_))
  rw [s1, show wrap64 (1 - 1) = 0 from by unfold wrap64; omega]
  refine Evt.step ?_
  simp only [wire_number.l0]
  refine Evt.ite_pos (by omega) (Evt.ite_pos (by unfold wrap64; omega) (Evt.ite_pos (by simp) ?_))
  rw [s0, show wrap64 (0 - 1) = -1 from by unfold wrap64; omega]
  refine Evt.step ?_
  simp only [wire_number.l0]
  exact Evt.ite_neg (by omega) (Evt.of fun k => by simp [be4])
/-- a prefix's bytes -/
def pfx (a b : Int) : List Int := b :: (be4 a).take (nb b)
theorem wPrefix_ev (B : List Int) (hB : B.length ≤ 100000) (a b : Int) (ha : isA a) : Evt (fun k => wire_Prefix.f k B a b) (if mayB a b = true then B ++ pfx a b else B) := by
  unfold wire_Prefix.f
  refine Evt.bindc (a := B) (by unfold bytes_Clone.f; rw [if_pos (by omega)]) (Evt.bindc (may_is a b ha) ?_)
  by_cases hm : mayB a b = true
  · obtain ⟨b0, b1, _⟩ := (mayB_iff a b).1 hm
    rw [if_pos hm]
    refine Evt.ite_pos hm (Evt.ite_pos (by omega) (Evt.bindc rfl ?_))
    rw [wrap64_in a (by have := ha.1; omega) (by have := ha.2; omega), nb_is b b0 b1, Int.emod_eq_of_lt b0 (by omega)]
    have hn := nb_le b b0 b1
    refine Evt.bind (number4_ev a ha) (Evt.ite_pos (by omega) (Evt.ite_pos (by simp [be4]; omega) (Evt.bindc rfl (Evt.ite_pos ?_ (Evt.of fun k => ?_)))))
    · rw [List.length_append, List.length_take]; simp [be4]; omega
    · rw [Int.toNat_natCast]; unfold pfx; simp
  · rw [if_neg hm]
    exact Evt.ite_neg hm (Evt.pure _)
theorem rNumber4_ev (a : Int) (ha : isA a) : Evt (fun k => whirligigref10_Number.f k a 4) (strOfNums (be4 a)) := by
  obtain ⟨h0, h1⟩ := ha
  unfold whirligigref10_Number.f
  have st : ∀ (x : Int) (l : List Int) (i : Nat) (r : ByteArray), 0 ≤ x → x ≤ 4294967295 → i < 4 → l.length ≤ 4 → Evt (fun k => whirligigref10_Number.l0 k (x / 256) 4 (strOfNums (x % 256 :: l)) ((i + 1 : Nat) : Int)) r → Evt (fun k => whirligigref10_Number.l0 k x 4 (strOfNums l) (i : Int)) r := by
    intro x l i r h0 h1 hi hl h
    refine Evt.step ?_
    simp only [whirligigref10_Number.l0]
    refine Evt.ite_pos (by omega) (Evt.bindc rfl ?_)
    rw [Int.tmod_eq_emod_of_nonneg h0, Int.tdiv_eq_ediv_of_nonneg h0, wrap64_in (x / 256) (by omega) (by omega), wrap64_in ((i : Int) + 1) (by omega) (by omega), show x % 256 % 256 = x % 256 by omega, son_app, show [x % 256] ++ l = x % 256 :: l from rfl]
    refine Evt.ite_pos (by rw [strOfNums_size, strOfNums_size]; simp; omega) ?_
    rw [show (i : Int) + 1 = ((i + 1 : Nat) : Int) by omega]; exact h
  rw [show (⟨#[]⟩ : ByteArray) = strOfNums [] from rfl]
  refine st a [] 0 _ h0 h1 (by omega) (by simp) ?_
  refine st (a / 256) _ 1 _ (by omega) (by omega) (by omega) (by simp) ?_
  refine st (a / 256 / 256) _ 2 _ (by omega) (by omega) (by omega) (by simp) ?_
  refine st (a / 256 / 256 / 256) _ 3 _ (by omega) (by omega) (by omega) (by simp) ?_
  refine Evt.step ?_
  simp only [whirligigref10_Number.l0]
  refine Evt.ite_neg (by omega) (Evt.of fun k => ?_)
  unfold be4
  rw [show a / 256 / 256 / 256 % 256 = a / 16777216 % 256 by omega, show a / 256 / 256 % 256 = a / 65536 % 256 by omega]
theorem rPrefix_ev (a b : Int) (ha : isA a) (b0 : 0 ≤ b) (b1 : b ≤ 32) : Evt (fun k => whirligigref10_Prefix.f k a b) (strOfNums (pfx a b)) := by
  have hn := nb_le b b0 b1
  unfold whirligigref10_Prefix.f
  refine Evt.bindc rfl ?_
  rw [wrap64_in a (by have := ha.1; omega) (by have := ha.2; omega), nb_is b b0 b1, Int.emod_eq_of_lt b0 (by omega)]
  have he : (strOfNums (be4 a)).extract 0 (nb b) = strOfNums ((be4 a).take (nb b)) := by
    rw [ext_take]
    unfold strOfNums
    simp
  refine Evt.bind (rNumber4_ev a ha) (Evt.ite_pos (by omega) (Evt.ite_pos (by rw [strOfNums_size]; simp [be4]; omega) ?_))
  rw [Int.toNat_natCast, he, son_app]
  refine Evt.ite_pos (by rw [strOfNums_size, strOfNums_size, List.length_take]; simp [be4]; omega) (Evt.pure _)
theorem un_div (b : Int) (h0 : 0 ≤ b) (h1 : b ≤ 32) (a : Int) (h : a % un b = 0) : a % 2 ^ (32 - 8 * nb b) = 0 := by
  have hn := nb_le b h0 h1
  have he : (32 - b).toNat = (32 - 8 * nb b) + ((32 - b).toNat - (32 - 8 * nb b)) := by unfold nb; omega
  have h2 : un b = 2 ^ (32 - 8 * nb b) * 2 ^ ((32 - b).toNat - (32 - 8 * nb b)) := by
    unfold un
    rw [← Int.pow_add, ← he]
  exact Int.emod_eq_zero_of_dvd (Int.dvd_trans ⟨_, h2⟩ (Int.dvd_of_emod_eq_zero h))
theorem pa_back (a b : Int) (ha : isA a) (h : mayB a b = true) : pa ((be4 a).take (nb b)) (nb b) = a := by
  obtain ⟨b0, b1, b2⟩ := (mayB_iff a b).1 h
  have hn := nb_le b b0 b1
  have hd := un_div b b0 b1 a b2
  obtain ⟨h0, h1⟩ := ha
  match hq : nb b, hn with
  | 0, _ => rw [hq] at hd; simp [pa]; simp at hd; omega
  | 1, _ => rw [hq] at hd; simp [pa, be4]; simp at hd; omega
  | 2, _ => rw [hq] at hd; simp [pa, be4]; simp at hd; omega
  | 3, _ => rw [hq] at hd; simp [pa, be4]; simp at hd; omega
  | 4, _ => simp [pa, be4]; omega
end Go.Proofs.Ytjmpojfpbhihpaa.P

end
section
namespace Go.Proofs.Ytjmpojfpbhihpaa
open Go.RowKit Go.Proofs.Ytjmpojfpbhihpaa.P Go.Proofs.YtjmpojfpbhihpaaW.PrintWords Go.Proofs.YtjmpojfpbhihpaaW.PrintLast Go.Proofs.YtjmpojfpbhihpaaW.PrintMore
set_option linter.unusedVariables false
set_option linter.unusedSimpArgs false

theorem takeL_ok (B : List Int) (at_ : Nat) (hu : U8 B) (h : (takeL B at_).2.2.2 = 0) : ∃ (a b : Int) (p : Nat), takeL B at_ = (a, b, (p : Int), 0) ∧ isA a ∧ 0 ≤ b ∧ b ≤ 32 ∧ mayB a b = true ∧ at_ < p ∧ p ≤ B.length := by
  unfold takeL at h ⊢
  by_cases h1 : B.length ≤ at_
  · rw [if_pos h1] at h; simp at h
  by_cases h2 : B.getD at_ 0 > 32
  · rw [if_neg h1, if_pos h2] at h; simp at h
  by_cases h3 : B.length < at_ + 1 + nb (B.getD at_ 0)
  · rw [if_neg h1, if_neg h2, if_pos h3] at h; simp at h
  rw [if_neg h1, if_neg h2, if_neg h3] at h ⊢
  unfold fin4 at h ⊢
  by_cases h4 : mayB (pa (B.drop (at_ + 1)) (nb (B.getD at_ 0))) (B.getD at_ 0) = true
  · rw [if_pos h4]
    have h0 : 0 ≤ B.getD at_ 0 := by
      rw [List.getD_eq_getElem?_getD, List.getElem?_eq_getElem (h := by omega)]
      exact (hu _ (List.getElem_mem _)).1
    exact ⟨_, _, at_ + 1 + nb (B.getD at_ 0), by simp, pa_isA _ (hu.drop _) _ (nb_le _ h0 (by omega)), h0, by omega, h4, by omega, by omega⟩
  · rw [if_neg h4] at h; simp at h

def prefsV (B : List Int) : Nat → Nat → Option (List S25)
  | 0, at_ => if B.length ≤ at_ then some [] else none
  | k + 1, at_ => if B.length ≤ at_ then some [] else if (takeL B at_).2.2.2 = 0 then (prefsV B k (takeL B at_).2.2.1.toNat).map (⟨(takeL B at_).1, (takeL B at_).2.1⟩ :: ·) else none
theorem prefsV_ok (B : List Int) (kk p q : Nat) (a b : Int) (h : p < B.length) (ht : takeL B p = (a, b, (q : Int), 0)) : prefsV B (kk + 1) p = (prefsV B kk q).map (⟨a, b⟩ :: ·) := by
  rw [prefsV, if_neg (by omega), ht, if_pos rfl, Int.toNat_natCast]
theorem prefsV_no (B : List Int) (kk p : Nat) (h : p < B.length) (ht : ¬ (takeL B p).2.2.2 = 0) : prefsV B kk p = none := by
  cases kk with
  | zero => exact if_neg (by omega)
  | succ n => rw [prefsV, if_neg (by omega), if_neg ht]

def PfxOk (x : S25) : Prop := isA x.f0 ∧ 0 ≤ x.f1 ∧ x.f1 ≤ 32

def PrefsE (w0 : World) (g : Nat) (B : List Int) (k at_ s : Nat) (e : Ending) (w' : World) : Prop :=
  (prefsV B k at_ = none ∧ e = .panicked [wrongP]) ∨ ∃ (xs : List S25) (A : Option Addr) (n c : Nat), prefsV B k at_ = some xs ∧ (∀ x ∈ xs, PfxOk x) ∧ n = xs.length ∧ e = .returned (.slice A n c) ∧ Kd.R k25 25 w' s (fun _ => True) (.slice A n c) xs ∧ Rdr w0 w' g B B.length
theorem info25w : (Try.prog.info? 25).map (fun i => (i.zero, i.size, i.bytes)) = some (some (.agg #[(.int .u32 0), (.int .i64 0)]), 2, 16) := by kernel_rfl
theorem below_set {b0 : Nat} {w0 w : World} (h : Below b0 w0 w) {g : Nat} (hg : b0 ≤ g) (i : Nat) (u : Value) : Below b0 w0 (w.setCell ⟨g, i, none⟩ u) :=
  ⟨h.os, h.tape, h.output, by rw [World.size_setCell]; exact h.size, fun b hb => (Below.heap_setCell w ⟨g, i, none⟩ u b (by show b ≠ g; omega)).trans (h.block b hb)⟩
theorem below_allocs {b0 : Nat} {w0 w : World} (h : Below b0 w0 w) (hs : b0 ≤ w.heap.size) (o : Obj) : Below b0 w0 (w.alloc o) := h.alloc hs o
set_option maxHeartbeats 8000000 in
set_option maxRecDepth 100000 in
theorem prefixes_calls (w0 w : World) (g : Nat) (B : List Int) (at_ k : Nat) (hk : B.length ≤ at_ + k) (hB : B.length ≤ 100000) (H : Rdr w0 w g B at_) :
    Calls Try.prog 44 #[.pointer (some ⟨g, 0, none⟩)] w fun e w' => PrefsE w0 g B k at_ w.heap.size e w' ∧ Kg g w w' := by
  have HG := mkHid H.lt
  have HH := mkHid H
  have HU := mkHid H.u8
  have hle := H.le
  clear H
  go_enter Try.func44, Try.ntmps44
  go_wp2_with fail
  go_loopg [3] (B.length - at_) (fun kq v3 wr => ∃ (xs : List S25) (A : Option Addr) (ln c p kk : Nat), v3 = .slice A ln c ∧ p ≤ B.length ∧ B.length - p = kq ∧ B.length ≤ p + kk ∧ xs.length ≤ p ∧ Hid (ln = xs.length) ∧ Hid (prefsV B k at_ = (prefsV B kk p).map (xs ++ ·)) ∧ Hid (∀ x ∈ xs, PfxOk x) ∧ Hid (Kd.R k25 25 wr w.heap.size (fun _ => True) (.slice A ln c) xs) ∧ Hid (Rdr w0 wr g B p) ∧ Hid (Kg g w wr))
  case atStart => exact ⟨[], none, 0, 0, at_, k, rfl, hle, rfl, hk, by simp, mkHid rfl, mkHid (by cases prefsV B k at_ <;> simp), mkHid (by simp), mkHid (Kd.R_nil _ _ _ _ _), HH, mkHid (Kg.refl _ _)⟩
  case round =>
    obtain ⟨xs, A, ln, c, p, kk, rfl, hp, hkq, hkk, hxl, HLN, HV, HO, HR, HD, HK⟩ := hrel
    have hcr := mkHid (rest_calls w0 wr g B p HD.out)
    by_cases hdone : p = B.length
    · have hd : decide ((B.length : Int) - (p : Int) > 0) = false := decide_eq_false (by omega)
      have hd2 : ¬ p < B.length := by omega
      have hv0 : prefsV B kk p = some [] := by cases kk with | zero => exact if_pos (by omega) | succ n => exact if_pos (by omega)
      have HF : Hid (∀ w', (∃ m, w' = wr.drewN m) → PrefsE w0 g B k at_ w.heap.size (.returned (.slice A ln c)) w' ∧ Kg g w w') := mkHid (fun w' hw => by
        obtain ⟨m, rfl⟩ := hw
        have hb := pw_below_drewN (Below.refl wr.heap.size wr) m
        refine ⟨.inr ⟨xs, A, ln, c, by rw [HV.out, hv0]; simp, HO.out, HLN.out, rfl, Kd.R_below HR.out hb, ?_⟩, HK.out.trans (Kg.of hb)⟩
        have := HD.out.grown hb HD.out.lt
        rwa [hdone] at this)
      have HDN := mkHid hdone
      clear hdone hv0 hkq hkk hxl
      go_wp2_with fail
      refine hcr.out.mono ?_
      rintro e w1 ⟨rfl, ⟨m, rfl⟩⟩
      go_wp2_with fail
      go_ret
      exact HF.out _ ⟨_, rfl⟩
    · have hd2 : p < B.length := by omega
      have hd : decide ((B.length : Int) - (p : Int) > 0) = true := decide_eq_true (by omega)
      go_wp2_with fail
      refine hcr.out.mono ?_
      rintro e w1 ⟨rfl, ⟨m, rfl⟩⟩
      have hb0 := pw_below_drewN (Below.refl wr.heap.size wr) m
      have HR1 : Hid (Rdr w0 (wr.drewN m) g B p) := mkHid (HD.out.grown hb0 (HD.out.lt))
      have HK1 : Hid (Kg g w (wr.drewN m)) := mkHid (HK.out.trans (Kg.of hb0))
      have HR2 := mkHid (Kd.R_below HR.out hb0)
      clear hb0
      obtain ⟨W, hW⟩ : ∃ W, W = wr.drewN m := ⟨_, rfl⟩
      rw [← hW] at HR1 HK1 HR2 ⊢
      obtain ⟨Ab, cb, h1, h2, h3⟩ := HR1.out.lies
      have q0 : W.cell? ⟨g, 0, none⟩ = some (.slice Ab B.length cb) := blk_cell h1 0
      have q1 : W.cell? ⟨g, 1, none⟩ = some (.int .i64 p) := blk_cell h1 1
      clear hW h1
      obtain ⟨⟨a, b, q, er⟩, hT⟩ : ∃ r, r = takeL B p := ⟨_, rfl⟩
      have hct : Hid (∀ wx, Below W.heap.size W wx → Calls Try.prog 10 #[.slice Ab B.length cb, .int .i64 p] wx fun e w' => e = .returned (.tuple #[.agg #[.int .u32 a, .int .i64 b], .int .i64 q, .int .i64 er]) ∧ Below W.heap.size W w' ∧ (W.heap.size < wx.heap.size → w'.heap[W.heap.size]? = wx.heap[W.heap.size]?)) := mkHid (fun wx hb => by
        obtain ⟨n, hn⟩ := wtTake_ev B hB HU.out p (by omega)
        have hf := hn n (Nat.le_refl _)
        rw [← hT] at hf
        exact (wire_Take.calls n Ab cb B p a b q er wx (Kd.C_below h2 (HR1.out.below.trans (hb.mono HR1.out.below.size))) h3 hf).mono (fun e w' hh => ⟨hh.1, hb.trans (hh.2.mono hb.size), fun hlt => hh.2.block _ hlt⟩))
      have HT := mkHid hT
      have hlt : g < W.heap.size := HR1.out.lt
      have hne : (g = W.heap.size) = False := by simp; omega
      clear hT h2 h3 hcr hdone hd
      go_upto_region 3 with fail
      rename_i K hK
      have hrest : Hid (∀ (cp : Nat) (X : World), X.heap[cp]? = some (.cells #[.int .u32 a, .int .i64 b] 25 (0, 0)) → W.heap.size ≤ cp → Below W.heap.size W X →
          K ⟨#[.pointer (some ⟨g, 0, none⟩), undef, .slice none 0 0, .slice A ln c, .pointer (some ⟨cp, 0, none⟩), .int .i64 q, .int .i64 er, .pointer (some ⟨g, 0, none⟩), .pointer (some ⟨g, 0, none⟩), .pointer (some ⟨g, 0, none⟩), .int .i64 ((B.length : Int) - (p : Int)), .bool true, .tuple #[.agg #[.int .u32 a, .int .i64 b], .int .i64 q, .int .i64 er], .pointer (some ⟨g, 0, none⟩), .pointer (some ⟨g, 0, none⟩), .pointer (some ⟨g, 0, none⟩), .pointer (some ⟨g, 0, none⟩), .slice Ab B.length cb, .pointer (some ⟨g, 0, none⟩), .pointer (some ⟨g, 0, none⟩), .pointer (some ⟨g, 0, none⟩), .pointer (some ⟨g, 1, none⟩), .int .i64 p, .tuple #[.agg #[.int .u32 a, .int .i64 b], .int .i64 q, .int .i64 er], .agg #[.int .u32 a, .int .i64 b], .int .i64 q, .int .i64 er, u27, u28, u29, u30, u31, u32, u33, u34, u35, u36, u37, u38, u39, undef], []⟩ X) := by
        intro cp X hcp hcpl hX
        have HX := mkHid hX
        have k0 := HR1.out.lt
        have HRX : Hid (Rdr w0 X g B p) := mkHid (HR1.out.grown hX HR1.out.lt)
        have HKX : Hid (Kg g w X) := mkHid (HK1.out.trans (Kg.of hX))
        have HRR := mkHid (Kd.R_below HR2.out hX)
        have x0 : X.cell? ⟨cp, 0, none⟩ = some (.int .u32 a) := blk_cell hcp 0
        have x1 : X.cell? ⟨cp, 1, none⟩ = some (.int .i64 b) := blk_cell hcp 1
        clear hcp hX
        apply hK
        by_cases her : er = 0
        · subst her
          obtain ⟨a', b', p', ht, ha, hb0, hb1, hm, hpp, hpB⟩ := takeL_ok B p HU.out (by rw [← HT.out])
          have hT' := HT.out
          rw [ht] at hT'
          obtain ⟨rfl, rfl, rfl⟩ : a = a' ∧ b = b' ∧ q = (p' : Int) := by simpa using hT'
          have HA := mkHid ha
          have HB2 : Hid (0 ≤ b ∧ b ≤ 32) := mkHid ⟨hb0, hb1⟩
          have HPB := mkHid hpB
          obtain ⟨kk, rfl⟩ : ∃ k2, kk = k2 + 1 := ⟨kk - 1, by omega⟩
          have hv := prefsV_ok B kk p p' a b hd2 ht
          have HV2 : Hid (prefsV B k at_ = (prefsV B kk p').map ((xs ++ [⟨a, b⟩]) ++ ·)) := mkHid (by
            rw [HV.out, hv]
            cases prefsV B kk p' with
            | none => rfl
            | some l => simp)
          clear ht ha hb0 hb1 hm hT' hv
          go_wp2_with fail
          refine (must_true _ _ _ (by first | rfl | decide)).mono ?_
          rintro e w3 ⟨rfl, rfl⟩
          go_wp2_with (at_builtin; refine Kd.R_append k25 (w0 := w3) w.heap.size ?a1 (.tmp 32) (.tmp 34) 37 25 (.agg #[(.int .u32 0), (.int .i64 0)]) 16 ?a2 ?a3 ?a4 ?a5 ?a6 ?a7 (.slice A ln c) xs ⟨a, b⟩ [.int .u32 a, .int .i64 b] (fun _ => True) (fun _ => False) ?a8 ?a9 ?aP ?aE ?aF ?aO ?aB ?aS ?aL ?_; (case a1 => rfl); (case a2 => rfl); (case a3 => exact Try.underlying37); (case a4 => exact info25w); (case a5 => rfl); (case a6 => decide); (case a7 => omega); (case a8 => rfl); (case a9 => rfl); (case aP => exact k25_mkM _ _ _ ⟨a, b⟩); (case aE => exact fun _ h => h.elim); (case aF => exact fun _ _ => trivial); (case aO => exact HRR.out); (case aB => exact Below.refl _ _); (case aS => exact HKX.out.size); (case aL => omega); intro v1 w6 hR6 hB6 _ _; obtain ⟨A4, c4, h4⟩ := Kd.R_slice hR6; obtain ⟨n4, hn4⟩ : ∃ n4 : Nat, n4 = (xs ++ [(⟨a, b⟩ : S25)]).length := ⟨_, rfl⟩; rw [← hn4] at h4; subst h4; have HN4 := mkHid hn4; clear hn4; have HR6 := mkHid hR6; have HB6 := mkHid hB6; have HD6 := mkHid (HRX.out.grown hB6 HG.out); (obtain ⟨A7, c7, g1, g2, g3⟩ := HD6.out.lies); have HC7 := mkHid (And.intro g2 g3); have z0 := blk_cell g1 1; have z1 := blk_frozen g1 1; have K6 := mkHid g1; clear g1 g2 g3 hR6 hB6)
          go_roundg (B.length - p')
          case measure => omega
          case rel =>
            have hks : ∀ (w8 : World), w8 = w6.setCell ⟨g, 1, none⟩ (.int .i64 (p' : Int)) → Kg g w6 w8 := fun w8 h8 => by rw [h8]; exact (Kg.refl g w6).set 1 _
            refine ⟨xs ++ [⟨a, b⟩], A4, n4, c4, p', kk, rfl, HPB.out, rfl, by omega, by rw [List.length_append]; simp; omega, HN4, HV2, ?_, ?_, ?_, ?_⟩
            · exact mkHid (fun x hx => by
                rcases List.mem_append.1 hx with h | h
                · exact HO.out x h
                · rw [List.mem_singleton.1 h]; exact ⟨HA.out, HB2.out⟩)
            · exact mkHid (R_kg HR6.out (hks _ rfl) HG.out)
            · exact mkHid ⟨⟨A7, c7, blk_set K6.out 1 _, HC7.out.1, HC7.out.2⟩, HH.out.base, (hks _ rfl).below HD6.out.below HH.out.base, HPB.out, HU.out, HD6.out.len⟩
            · exact mkHid ((HKX.out.grown HB6.out).trans (hks _ rfl))
        · have hde : decide (er = 0) = false := decide_eq_false her
          have HN : Hid (∀ w', PrefsE w0 g B k at_ w.heap.size (.panicked [wrongP]) w') := mkHid (fun w' => .inl ⟨by
            rw [HV.out]
            have : prefsV B kk p = none := prefsV_no B kk p hd2 (by rw [← HT.out]; exact her)
            rw [this]; rfl, rfl⟩)
          go_wp2_with fail
          refine (must_false _ _ _ (by first | exact hde | rfl)).mono ?_
          rintro e w3 ⟨rfl, rfl⟩
          exact ⟨rfl, HN.out _, HKX.out⟩
      clear hK HLN HV HO HR HD HK HR1 HK1 HR2 HU HG HH
      go_region_with (go_at_call 10; refine (hct.out _ (by repeat (first | exact Below.refl _ _ | apply below_drew | apply below_alloc))).mono ?_; rintro e w' ⟨rfl, hb, hx⟩; have HBt := mkHid hb; (first | (have hx1 : w'.heap[W.heap.size]? = some (.cells #[.int .u32 0, .int .i64 0] 25 (0, 0)) := (hx (by simp)).trans (by first | exact heap_alloc_new _ _ | exact blk_drew (heap_alloc_new _ _)); have hx2 := blk_cell hx1 0; have hx3 := blk_cell hx1 1; have hx4 := blk_frozen hx1 0; have hx5 := blk_frozen hx1 1; have HX1 := mkHid hx1; clear hx1) | skip); clear hb hx)
      all_goals first
        | exact hrest.out W.heap.size _ (blk_set (blk_set HX1.out 0 _) 1 _) (Nat.le_refl _) (below_set (below_set HBt.out (Nat.le_refl _) _ _) (Nat.le_refl _) _ _)
        | exact hrest.out _ _ (heap_alloc_new _ _) HBt.out.size (below_allocs HBt.out HBt.out.size _)
end Go.Proofs.Ytjmpojfpbhihpaa

end
section
namespace Go.Proofs.Ytjmpojfpbhihpaa
open Go.RowKit Go.Proofs.Ytjmpojfpbhihpaa.P Go.Proofs.YtjmpojfpbhihpaaW.PrintWords Go.Proofs.YtjmpojfpbhihpaaW.PrintLast Go.Proofs.YtjmpojfpbhihpaaW.PrintMore
set_option linter.unusedVariables false
set_option linter.unusedSimpArgs false

theorem R_keep2 {α : Type} {d : Kd α} {e g t s : Nat} {w w' : World} {v : Value} {xs : List α} {cells : Array Value} (h : d.R e w s (fun _ => True) v xs) (hb : w.heap[g]? = some (.cells cells t (0, 0))) (ht : ∀ q, q ∈ e :: d.E → q ≠ t) (hk : ∀ b, b < w.heap.size → b ≠ g → w'.heap[b]? = w.heap[b]?) : d.R e w' s (fun _ => True) v xs :=
  Kd.R_mono (Kd.R_step (Kd.R_types h hb ht) (fun k ho hlt => hk k hlt ho.2)) (fun _ _ => trivial)

structure Kt (s g gu : Nat) (w w' : World) : Prop where
  below : Below s w w'
  block : ∀ b, b < w.heap.size → b ≠ g → b ≠ gu → (∀ cells, w.heap[b]? ≠ some (.cells cells 102 (0, 0))) → w'.heap[b]? = w.heap[b]?
theorem Kt.refl (s g gu : Nat) (w : World) : Kt s g gu w w := ⟨⟨rfl, rfl, rfl, Nat.le_refl _, fun _ _ => rfl⟩, fun _ _ _ _ _ => rfl⟩
theorem Kt.trans {s g gu : Nat} {a b c : World} (h : Kt s g gu a b) (k : Kt s g gu b c) : Kt s g gu a c :=
  ⟨h.below.trans k.below, fun i hi h1 h2 h3 => by
    have e := h.block i hi h1 h2 h3
    exact (k.block i (Nat.lt_of_lt_of_le hi h.below.size) h1 h2 (fun c hc => h3 c (e ▸ hc))).trans e⟩
theorem Kg.kt {s g gu : Nat} {w w' : World} (h : Kg g w w') (hs : s ≤ g) (hw : s ≤ w.heap.size) : Kt s g gu w w' :=
  ⟨⟨h.os, h.tape, h.output, h.size, fun b hb => h.block b (by omega) (by omega)⟩, fun b hb h1 _ _ => h.block b hb h1⟩

theorem Kg.ktn {s g gu gp : Nat} {w w1 w' : World} (h : Kg gp w1 w') (k : Kt s g gu w w1) (hp : w.heap.size ≤ gp) (hw : s ≤ w.heap.size) : Kt s g gu w w' :=
  ⟨⟨h.os.trans k.below.os, h.tape.trans k.below.tape, h.output.trans k.below.output, Nat.le_trans k.below.size h.size, fun b hb => (h.block b (by have := k.below.size; omega) (by omega)).trans (k.below.block b hb)⟩,
   fun b hb h1 h2 h3 => (h.block b (by have := k.below.size; omega) (by omega)).trans (k.block b hb h1 h2 h3)⟩

structure UpdM (w : World) (gu s : Nat) (vW vT : Value) (a : S41) : Prop where
  lies : ∃ (A3 A4 A6 : Option Addr) (n3 n4 n6 c3 c4 c6 : Nat), w.heap[gu]? = some (.cells #[vW, vT, .int .i64 a.f0, .int .i64 a.f1, .int .i64 a.f2, .slice A3 n3 c3, .slice A4 n4 c4, .int .i64 a.f5, .slice A6 n6 c6] 47 (0, 0)) ∧
    n3 = a.f3.length ∧ n4 = a.f4.length ∧ n6 = a.f6.length ∧ Kd.R (Kd.int .i64) 3 w s (fun _ => True) (.slice A3 n3 c3) a.f3 ∧ Kd.R k102 102 w s (fun _ => True) (.slice A4 n4 c4) a.f4 ∧ Kd.R (Kd.int .i64) 3 w s (fun _ => True) (.slice A6 n6 c6) a.f6
theorem UpdM.kg {w w' : World} {gu s gp : Nat} {vW vT : Value} {a : S41} {cells : Array Value} (h : UpdM w gu s vW vT a) (hk : Kg gp w w') (hb : w.heap[gp]? = some (.cells cells 79 (0, 0))) (hne : gu ≠ gp) : UpdM w' gu s vW vT a := by
  obtain ⟨A3, A4, A6, n3, n4, n6, c3, c4, c6, g1, g2, g3, g4, g5, g6, g7⟩ := h.lies
  have hlt := (Array.getElem?_eq_some_iff.1 g1).1
  exact ⟨A3, A4, A6, n3, n4, n6, c3, c4, c6, (hk.block gu hlt hne).trans g1, g2, g3, g4, R_keep2 g5 hb (by decide) hk.block, R_keep2 g6 hb (by decide) hk.block, R_keep2 g7 hb (by decide) hk.block⟩
theorem Rdr.blk {w0 w : World} {g : Nat} {B : List Int} {at_ : Nat} (H : Rdr w0 w g B at_) : ∃ cells, w.heap[g]? = some (.cells cells 79 (0, 0)) := by
  obtain ⟨A, c, h1, _, _⟩ := H.lies
  exact ⟨_, h1⟩

def commsV : Nat → List Int → List S102
  | 0, _ => []
  | k + 1, l => commsV k l ++ [⟨beV ((l.drop (4 * k)).take 2), beV ((l.drop (4 * k + 2)).take 2)⟩]
theorem commsV_len (k : Nat) (l : List Int) : (commsV k l).length = k := by
  induction k with
  | zero => rfl
  | succ k ih => rw [commsV, List.length_append, ih]; rfl

def payV (a : S41) (kind : Int) (P : List Int) : Option S41 :=
  if kind = 1 then (if P.length = 1 then some { a with f2 := beV P } else none)
  else if kind = 2 then (pathV P 0).map (fun l => { a with f3 := l })
  else if kind = 4 then (if P.length = 4 then some { a with f1 := beV P } else none)
  else if kind = 5 then (if P.length = 4 then some { a with f0 := beV P } else none)
  else if kind = 8 then (if P.length % 4 = 0 then some { a with f4 := a.f4 ++ commsV (P.length / 4) P } else none)
  else if kind = 9 then (if P.length = 4 then some { a with f5 := beV P } else none)
  else if kind = 10 then (if P.length % 4 = 0 then some { a with f6 := numsV 4 (P.length / 4) P } else none)
  else if P.length = 0 then some a else none

def attrV (a : S41) (B : List Int) (at_ : Nat) : Option (S41 × Nat) :=
  if at_ + 3 ≤ B.length ∧ at_ + 3 + (beV ((B.drop (at_ + 2)).take 1)).toNat ≤ B.length then
    (payV a (beV ((B.drop (at_ + 1)).take 1)) ((B.drop (at_ + 3)).take (beV ((B.drop (at_ + 2)).take 1)).toNat)).map (fun x => (x, at_ + 3 + (beV ((B.drop (at_ + 2)).take 1)).toNat))
  else none

def AttrE (w0 : World) (g gu s : Nat) (vW vT : Value) (a : S41) (B : List Int) (at_ : Nat) (e : Ending) (w' : World) : Prop :=
  (attrV a B at_ = none ∧ e = .panicked [wrongP] ∧ ∃ a', UpdM w' gu s vW vT a') ∨ ∃ a' at', attrV a B at_ = some (a', at') ∧ e = .returned (.tuple #[]) ∧ UpdM w' gu s vW vT a' ∧ Rdr w0 w' g B at'
end Go.Proofs.Ytjmpojfpbhihpaa

end
section
namespace Go.Proofs.Ytjmpojfpbhihpaa
open Go.RowKit Go.Proofs.Ytjmpojfpbhihpaa.P Go.Proofs.YtjmpojfpbhihpaaW.PrintWords Go.Proofs.YtjmpojfpbhihpaaW.PrintLast Go.Proofs.YtjmpojfpbhihpaaW.PrintMore
set_option linter.unusedVariables false
set_option linter.unusedSimpArgs false

theorem num_is (P : List Int) (K : Nat) (h : K = P.length) : beV ((P.drop 0).take K) = beV P := by rw [List.drop_zero, List.take_of_length_le (by omega)]
theorem pay1 (a : S41) (P : List Int) : payV a 1 P = if 1 = P.length then some { a with f2 := beV ((P.drop 0).take 1) } else none := by
  unfold payV
  rw [if_pos rfl]
  by_cases h : P.length = 1
  · rw [if_pos h, if_pos h.symm, num_is _ _ h.symm]
  · rw [if_neg h, if_neg (fun e => h e.symm)]
theorem pay4 (a : S41) (P : List Int) : payV a 4 P = if 4 = P.length then some { a with f1 := beV ((P.drop 0).take 4) } else none := by
  unfold payV
  rw [if_neg (by decide), if_neg (by decide), if_pos rfl]
  by_cases h : P.length = 4
  · rw [if_pos h, if_pos h.symm, num_is _ _ h.symm]
  · rw [if_neg h, if_neg (fun e => h e.symm)]
theorem pay5 (a : S41) (P : List Int) : payV a 5 P = if 4 = P.length then some { a with f0 := beV ((P.drop 0).take 4) } else none := by
  unfold payV
  rw [if_neg (by decide), if_neg (by decide), if_neg (by decide), if_pos rfl]
  by_cases h : P.length = 4
  · rw [if_pos h, if_pos h.symm, num_is _ _ h.symm]
  · rw [if_neg h, if_neg (fun e => h e.symm)]
theorem pay9 (a : S41) (P : List Int) : payV a 9 P = if 4 = P.length then some { a with f5 := beV ((P.drop 0).take 4) } else none := by
  unfold payV
  rw [if_neg (by decide), if_neg (by decide), if_neg (by decide), if_neg (by decide), if_neg (by decide), if_pos rfl]
  by_cases h : P.length = 4
  · rw [if_pos h, if_pos h.symm, num_is _ _ h.symm]
  · rw [if_neg h, if_neg (fun e => h e.symm)]

structure SetB (gu : Nat) (w w' : World) : Prop where
  os : w'.os = w.os
  tape : w'.tape = w.tape
  output : w'.output = w.output
  size : w'.heap.size = w.heap.size
  block : ∀ b, b ≠ gu → w'.heap[b]? = w.heap[b]?
theorem SetB.of (gu : Nat) (w : World) (i : Nat) (u : Value) : SetB gu w (w.setCell ⟨gu, i, none⟩ u) := ⟨rfl, rfl, rfl, World.size_setCell _ _ _, fun b hb => Below.heap_setCell w ⟨gu, i, none⟩ u b hb⟩
theorem SetB.rdr {gu g : Nat} {w0 w w' : World} {B : List Int} {at_ : Nat} (h : SetB gu w w') (H : Rdr w0 w g B at_) (hne : g ≠ gu) (hb : w0.heap.size ≤ gu) : Rdr w0 w' g B at_ := by
  obtain ⟨A, c, h1, h2, h3⟩ := H.lies
  exact ⟨⟨A, c, (h.block g hne).trans h1, h2, h3⟩, H.base, H.below.trans ⟨h.os, h.tape, h.output, Nat.le_of_eq h.size.symm, fun b hb' => h.block b (by omega)⟩, H.le, H.u8, H.len⟩
theorem SetB.kt {s g gu : Nat} {w w1 w' : World} (h : SetB gu w1 w') (k : Kt s g gu w w1) (hs : s ≤ gu) : Kt s g gu w w' :=
  ⟨k.below.trans ⟨h.os, h.tape, h.output, Nat.le_of_eq h.size.symm, fun b hb => h.block b (by omega)⟩, fun b hb h1 h2 h3 => (h.block b h2).trans (k.block b hb h1 h2 h3)⟩
theorem UpdM.set0 {w : World} {gu s : Nat} {vW vT : Value} {a : S41} (h : UpdM w gu s vW vT a) (x : Int) :
    UpdM (w.setCell ⟨gu, 2, none⟩ (.int .i64 x)) gu s vW vT { a with f0 := x } ∧ (w.cell? ⟨gu, 2, none⟩ = some (.int .i64 a.f0) ∧ w.frozen? ⟨gu, 2, none⟩ = false) ∧ SetB gu w (w.setCell ⟨gu, 2, none⟩ (.int .i64 x)) := by
  obtain ⟨A3, A4, A6, n3, n4, n6, c3, c4, c6, g1, g2, g3, g4, g5, g6, g7⟩ := h.lies
  have hk : ∀ b, b < w.heap.size → b ≠ gu → (w.setCell ⟨gu, 2, none⟩ (.int .i64 x)).heap[b]? = w.heap[b]? := fun b _ hb => Below.heap_setCell w ⟨gu, 2, none⟩ _ b hb
  exact ⟨⟨A3, A4, A6, n3, n4, n6, c3, c4, c6, blk_set g1 2 _, g2, g3, g4, R_keep2 g5 g1 (by decide) hk, R_keep2 g6 g1 (by decide) hk, R_keep2 g7 g1 (by decide) hk⟩, ⟨blk_cell g1 2, blk_frozen g1 2⟩, SetB.of _ _ _ _⟩
theorem UpdM.set1 {w : World} {gu s : Nat} {vW vT : Value} {a : S41} (h : UpdM w gu s vW vT a) (x : Int) :
    UpdM (w.setCell ⟨gu, 3, none⟩ (.int .i64 x)) gu s vW vT { a with f1 := x } ∧ (w.cell? ⟨gu, 3, none⟩ = some (.int .i64 a.f1) ∧ w.frozen? ⟨gu, 3, none⟩ = false) ∧ SetB gu w (w.setCell ⟨gu, 3, none⟩ (.int .i64 x)) := by
  obtain ⟨A3, A4, A6, n3, n4, n6, c3, c4, c6, g1, g2, g3, g4, g5, g6, g7⟩ := h.lies
  have hk : ∀ b, b < w.heap.size → b ≠ gu → (w.setCell ⟨gu, 3, none⟩ (.int .i64 x)).heap[b]? = w.heap[b]? := fun b _ hb => Below.heap_setCell w ⟨gu, 3, none⟩ _ b hb
  exact ⟨⟨A3, A4, A6, n3, n4, n6, c3, c4, c6, blk_set g1 3 _, g2, g3, g4, R_keep2 g5 g1 (by decide) hk, R_keep2 g6 g1 (by decide) hk, R_keep2 g7 g1 (by decide) hk⟩, ⟨blk_cell g1 3, blk_frozen g1 3⟩, SetB.of _ _ _ _⟩
theorem UpdM.set2 {w : World} {gu s : Nat} {vW vT : Value} {a : S41} (h : UpdM w gu s vW vT a) (x : Int) :
    UpdM (w.setCell ⟨gu, 4, none⟩ (.int .i64 x)) gu s vW vT { a with f2 := x } ∧ (w.cell? ⟨gu, 4, none⟩ = some (.int .i64 a.f2) ∧ w.frozen? ⟨gu, 4, none⟩ = false) ∧ SetB gu w (w.setCell ⟨gu, 4, none⟩ (.int .i64 x)) := by
  obtain ⟨A3, A4, A6, n3, n4, n6, c3, c4, c6, g1, g2, g3, g4, g5, g6, g7⟩ := h.lies
  have hk : ∀ b, b < w.heap.size → b ≠ gu → (w.setCell ⟨gu, 4, none⟩ (.int .i64 x)).heap[b]? = w.heap[b]? := fun b _ hb => Below.heap_setCell w ⟨gu, 4, none⟩ _ b hb
  exact ⟨⟨A3, A4, A6, n3, n4, n6, c3, c4, c6, blk_set g1 4 _, g2, g3, g4, R_keep2 g5 g1 (by decide) hk, R_keep2 g6 g1 (by decide) hk, R_keep2 g7 g1 (by decide) hk⟩, ⟨blk_cell g1 4, blk_frozen g1 4⟩, SetB.of _ _ _ _⟩
theorem UpdM.set5 {w : World} {gu s : Nat} {vW vT : Value} {a : S41} (h : UpdM w gu s vW vT a) (x : Int) :
    UpdM (w.setCell ⟨gu, 7, none⟩ (.int .i64 x)) gu s vW vT { a with f5 := x } ∧ (w.cell? ⟨gu, 7, none⟩ = some (.int .i64 a.f5) ∧ w.frozen? ⟨gu, 7, none⟩ = false) ∧ SetB gu w (w.setCell ⟨gu, 7, none⟩ (.int .i64 x)) := by
  obtain ⟨A3, A4, A6, n3, n4, n6, c3, c4, c6, g1, g2, g3, g4, g5, g6, g7⟩ := h.lies
  have hk : ∀ b, b < w.heap.size → b ≠ gu → (w.setCell ⟨gu, 7, none⟩ (.int .i64 x)).heap[b]? = w.heap[b]? := fun b _ hb => Below.heap_setCell w ⟨gu, 7, none⟩ _ b hb
  exact ⟨⟨A3, A4, A6, n3, n4, n6, c3, c4, c6, blk_set g1 7 _, g2, g3, g4, R_keep2 g5 g1 (by decide) hk, R_keep2 g6 g1 (by decide) hk, R_keep2 g7 g1 (by decide) hk⟩, ⟨blk_cell g1 7, blk_frozen g1 7⟩, SetB.of _ _ _ _⟩
theorem pay2 (a : S41) (P : List Int) : payV a 2 P = (pathV P 0).map (fun l => { a with f3 := l }) := by
  unfold payV
  rw [if_neg (by decide), if_pos rfl]
theorem pay10 (a : S41) (P : List Int) : payV a 10 P = if P.length % 4 = 0 then some { a with f6 := numsV 4 (P.length / 4) P } else none := by
  unfold payV
  rw [if_neg (by decide), if_neg (by decide), if_neg (by decide), if_neg (by decide), if_neg (by decide), if_neg (by decide), if_pos rfl]
theorem payN (a : S41) (kind : Int) (P : List Int) (h1 : ¬ kind = 1) (h2 : ¬ kind = 2) (h4 : ¬ kind = 4) (h5 : ¬ kind = 5) (h8 : ¬ kind = 8) (h9 : ¬ kind = 9) (h10 : ¬ kind = 10) : payV a kind P = if 0 = P.length then some a else none := by
  unfold payV
  rw [if_neg h1, if_neg h2, if_neg h4, if_neg h5, if_neg h8, if_neg h9, if_neg h10]
  by_cases h : P.length = 0
  · rw [if_pos h, if_pos h.symm]
  · rw [if_neg h, if_neg (fun e => h e.symm)]
theorem UpdM.set3 {w : World} {gu s : Nat} {vW vT : Value} {a : S41} (h : UpdM w gu s vW vT a) (A : Option Addr) (n c : Nat) (xs : List Int) (hn : n = xs.length) (hR : Kd.R (Kd.int .i64) 3 w s (fun _ => True) (.slice A n c) xs) :
    UpdM (w.setCell ⟨gu, 5, none⟩ (.slice A n c)) gu s vW vT { a with f3 := xs } ∧ ((∃ v, w.cell? ⟨gu, 5, none⟩ = some v) ∧ w.frozen? ⟨gu, 5, none⟩ = false) ∧ SetB gu w (w.setCell ⟨gu, 5, none⟩ (.slice A n c)) := by
  obtain ⟨A3, A4, A6, n3, n4, n6, c3, c4, c6, g1, g2, g3, g4, g5, g6, g7⟩ := h.lies
  have hk : ∀ b, b < w.heap.size → b ≠ gu → (w.setCell ⟨gu, 5, none⟩ (.slice A n c)).heap[b]? = w.heap[b]? := fun b _ hb => Below.heap_setCell w ⟨gu, 5, none⟩ _ b hb
  exact ⟨⟨A, A4, A6, n, n4, n6, c, c4, c6, blk_set g1 5 _, hn, g3, g4, R_keep2 hR g1 (by decide) hk, R_keep2 g6 g1 (by decide) hk, R_keep2 g7 g1 (by decide) hk⟩, ⟨⟨_, blk_cell g1 5⟩, blk_frozen g1 5⟩, SetB.of _ _ _ _⟩
theorem UpdM.set6 {w : World} {gu s : Nat} {vW vT : Value} {a : S41} (h : UpdM w gu s vW vT a) (A : Option Addr) (n c : Nat) (xs : List Int) (hn : n = xs.length) (hR : Kd.R (Kd.int .i64) 3 w s (fun _ => True) (.slice A n c) xs) :
    UpdM (w.setCell ⟨gu, 8, none⟩ (.slice A n c)) gu s vW vT { a with f6 := xs } ∧ ((∃ v, w.cell? ⟨gu, 8, none⟩ = some v) ∧ w.frozen? ⟨gu, 8, none⟩ = false) ∧ SetB gu w (w.setCell ⟨gu, 8, none⟩ (.slice A n c)) := by
  obtain ⟨A3, A4, A6, n3, n4, n6, c3, c4, c6, g1, g2, g3, g4, g5, g6, g7⟩ := h.lies
  have hk : ∀ b, b < w.heap.size → b ≠ gu → (w.setCell ⟨gu, 8, none⟩ (.slice A n c)).heap[b]? = w.heap[b]? := fun b _ hb => Below.heap_setCell w ⟨gu, 8, none⟩ _ b hb
  exact ⟨⟨A3, A4, A, n3, n4, n, c3, c4, c, blk_set g1 8 _, g2, g3, hn, R_keep2 g5 g1 (by decide) hk, R_keep2 g6 g1 (by decide) hk, R_keep2 hR g1 (by decide) hk⟩, ⟨⟨_, blk_cell g1 8⟩, blk_frozen g1 8⟩, SetB.of _ _ _ _⟩
theorem pay8 (a : S41) (P : List Int) : payV a 8 P = if P.length % 4 = 0 then some { a with f4 := a.f4 ++ commsV (P.length / 4) P } else none := by
  unfold payV
  rw [if_neg (by decide), if_neg (by decide), if_neg (by decide), if_neg (by decide), if_pos rfl]
theorem info102w : (Try.prog.info? 102).map (fun i => (i.zero, i.size, i.bytes)) = some (some (.agg #[(.int .i64 0), (.int .i64 0)]), 2, 16) := by kernel_rfl

structure FN (w0 W : World) (gp : Nat) (P : List Int) (pt : Nat) (w' : World) : Prop where
  kg : Kg gp W w'
  rdr : Rdr w0 w' gp P pt
theorem FN.drew {w0 W w' : World} {gp pt : Nat} {P : List Int} (h : FN w0 W gp P pt w') : FN w0 W gp P pt w'.drew :=
  have hb : Below w'.heap.size w' w'.drew := below_drew (Below.refl _ _)
  ⟨h.kg.trans (Kg.of hb), h.rdr.grown hb h.rdr.lt⟩
theorem R_grown3 {α β : Type} {d : Kd α} {d' : Kd β} {e e' s : Nat} {w w1 : World} {v v' : Value} {xs : List α} {xs' : List β} (h : d.R e w s (fun _ => True) v xs) (h' : d'.R e' w s (fun _ => True) v' xs') (hg : w.grownBy w1 v'.ownBlock) (hd : ∀ q, q ∈ e :: d.E → ∀ q', q' ∈ e' :: d'.E → q ≠ q') : d.R e w1 s (fun _ => True) v xs :=
  Kd.R_mono (Kd.R_grown (Kd.R_bound h) hg (fun k hk he => by
    obtain ⟨_, _, _, q, hq, cells, hc⟩ := hk
    obtain ⟨_, _, _, q', hq', cells', hc'⟩ := (Kd.R_bound h').1 k he.symm
    rw [hc] at hc'
    injection hc' with h1
    injection h1 with h2 h3
    exact hd q hq q' hq' h3)) (fun _ _ => trivial)
theorem Rdr.grown2 {w0 w w1 : World} {g s at_ : Nat} {B : List Int} {row : Option Nat} (H : Rdr w0 w g B at_) (hg : w.grownBy w1 row) (hne : some g ≠ row) (hb : Below s w w1) (hs : w0.heap.size ≤ s) : Rdr w0 w1 g B at_ := by
  obtain ⟨A, c, h1, h2, h3⟩ := H.lies
  exact ⟨⟨A, c, (hg.block g (Array.getElem?_eq_some_iff.1 h1).1 hne).trans h1, h2, h3⟩, H.base, H.below.trans ⟨hb.os, hb.tape, hb.output, hb.size, fun i hi => hb.block i (by omega)⟩, H.le, H.u8, H.len⟩

theorem comm_more {s g gu gp pt m : Nat} {w0 w W w7 w8 : World} {B P : List Int} {vW vT : Value} {a : S41} {A3 A4 A6 A5 : Option Addr} {n3 n4 n6 n5 c3 c4 c6 c5 : Nat} {ys : List S102}
    (hs0 : w0.heap.size ≤ s) (hsu : s ≤ gu) (hsw : s ≤ w.heap.size) (hgpw : w.heap.size ≤ gp) (hgug : gu ≠ gp) (hggp : g ≠ gp) (hne : gu ≠ g)
    (hf : FN w0 W gp P pt w7) (hgr : World.grownBy w7 w8 (Value.slice A4 n4 c4).ownBlock) (hb8 : Below s w7 w8)
    (hq8 : w8.heap[gu]? = some (.cells #[vW, vT, .int .i64 a.f0, .int .i64 a.f1, .int .i64 a.f2, .slice A3 n3 c3, .slice A4 n4 c4, .int .i64 a.f5, .slice A6 n6 c6] 47 (0, 0)))
    (hn3 : n3 = a.f3.length) (hn6 : n6 = a.f6.length) (hn5 : n5 = ys.length)
    (h3 : Kd.R (Kd.int .i64) 3 w7 s (fun _ => True) (.slice A3 n3 c3) a.f3) (xs4 : List S102) (h4 : Kd.R k102 102 w7 s (fun _ => True) (.slice A4 n4 c4) xs4) (h6 : Kd.R (Kd.int .i64) 3 w7 s (fun _ => True) (.slice A6 n6 c6) a.f6)
    (h8 : Kd.R k102 102 w8 s (fun _ => True) (.slice A5 n5 c5) ys) (hD : Rdr w0 W g B m) (hK : Kt s g gu w W) :
    UpdM (w8.setCell ⟨gu, 6, none⟩ (.slice A5 n5 c5)) gu s vW vT { a with f4 := ys } ∧ Rdr w0 (w8.setCell ⟨gu, 6, none⟩ (.slice A5 n5 c5)) gp P pt ∧ Rdr w0 (w8.setCell ⟨gu, 6, none⟩ (.slice A5 n5 c5)) g B m ∧ Kt s g gu w (w8.setCell ⟨gu, 6, none⟩ (.slice A5 n5 c5)) := by
  have hset := SetB.of gu w8 6 (.slice A5 n5 c5)
  have hk : ∀ b, b < w8.heap.size → b ≠ gu → (w8.setCell ⟨gu, 6, none⟩ (.slice A5 n5 c5)).heap[b]? = w8.heap[b]? := fun b _ hb => hset.block b hb
  have hs0u := Nat.le_trans hs0 hsu
  have hd7 : Rdr w0 w7 g B m := hD.kg hf.kg hf.rdr.base hggp
  obtain ⟨clp, hclp⟩ := hf.rdr.blk
  obtain ⟨clg, hclg⟩ := hd7.blk
  refine ⟨⟨A3, A5, A6, n3, n5, n6, c3, c5, c6, blk_set hq8 6 _, hn3, hn5, hn6, R_keep2 (R_grown3 h3 h4 hgr (by decide)) hq8 (by decide) hk, R_keep2 h8 hq8 (by decide) hk, R_keep2 (R_grown3 h6 h4 hgr (by decide)) hq8 (by decide) hk⟩,
    hset.rdr (hf.rdr.grown2 hgr (Kd.R_ne h4 hclp (by decide)) hb8 hs0) (fun h => hgug h.symm) hs0u, hset.rdr (hd7.grown2 hgr (Kd.R_ne h4 hclg (by decide)) hb8 hs0) (fun h => hne h.symm) hs0u, ?_⟩
  have hk7 : Kt s g gu w w7 := hf.kg.ktn hK hgpw hsw
  refine hset.kt ⟨hk7.below.trans hb8, fun b hb h1 h2 h3 => ?_⟩ hsu
  have e7 := hk7.block b hb h1 h2 h3
  refine (hgr.block b (Nat.lt_of_lt_of_le hb hk7.below.size) (fun he => ?_)).trans e7
  obtain ⟨_, _, _, q', hq', cells', hc'⟩ := (Kd.R_bound h4).1 b he.symm
  have : q' = 102 := by simpa [show (k102).E = [] from rfl] using hq'
  subst this
  exact h3 cells' (e7 ▸ hc')
set_option maxHeartbeats 8000000 in
set_option maxRecDepth 100000 in
theorem attribute_calls (s : Nat) (w0 w : World) (g gu : Nat) (B : List Int) (at_ : Nat) (vW vT : Value) (a : S41) (H : Rdr w0 w g B at_) (hs0 : w0.heap.size ≤ s) (hsg : s ≤ g) (hsu : s ≤ gu) (hne : gu ≠ g) (HM : UpdM w gu s vW vT a) (hB : B.length ≤ 100000) (hlim : a.f4.length ≤ 100000) :
    Calls Try.prog 46 #[.pointer (some ⟨g, 0, none⟩), .pointer (some ⟨gu, 2, none⟩)] w fun e w' => AttrE w0 g gu s vW vT a B at_ e w' ∧ Kt s g gu w w' := by
  have HG := mkHid H.lt
  have HU := mkHid H.u8
  have HH := mkHid H
  have HSW : Hid (s ≤ w.heap.size) := mkHid (by have := H.lt; omega)
  have HMM := mkHid HM
  have ht := mkHid (take_calls w0 w g B at_ 1 (by decide) H)
  have HN : Hid (attrV a B at_ = none → ∀ w', (∃ a', UpdM w' gu s vW vT a') → AttrE w0 g gu s vW vT a B at_ (.panicked [wrongP]) w') := mkHid (fun h w' hw => .inl ⟨h, rfl, hw⟩)
  clear H HM
  go_enter Try.func46, Try.ntmps46
  go_wp2_with fail
  refine ht.out.mono ?_
  rintro e w1 ⟨he, hk⟩
  have HK1 : Hid (Kt s g gu w w1) := mkHid (hk.kt hsg HSW.out)
  obtain ⟨cl, hcl⟩ := HH.out.blk
  have HM1 := mkHid (HMM.out.kg hk hcl hne)
  clear hk hcl
  unfold TakeE at he
  by_cases h1 : at_ + 1 ≤ B.length
  case neg =>
    rw [if_neg h1] at he
    subst he
    exact ⟨rfl, HN.out (if_neg (by omega)) _ ⟨_, HM1.out⟩, HK1.out⟩
  rw [if_pos h1] at he
  obtain ⟨A1, c1, rfl, _, _, hD1⟩ := he
  have hn1 := mkHid (number_calls w0 w1 g B (at_ + 1) 1 (by decide) hD1)
  have HD1 := mkHid hD1
  clear hD1 h1
  go_wp2_with fail
  refine hn1.out.mono ?_
  rintro e w2 ⟨he, hk⟩
  have HK2 : Hid (Kt s g gu w w2) := mkHid (HK1.out.trans (hk.kt hsg (Nat.le_trans HSW.out HK1.out.below.size)))
  obtain ⟨cl, hcl⟩ := HD1.out.blk
  have HM2 := mkHid (HM1.out.kg hk hcl hne)
  clear hk hcl
  unfold NumE at he
  by_cases h2 : at_ + 1 + 1 ≤ B.length
  case neg =>
    rw [if_neg h2] at he
    subst he
    exact ⟨rfl, HN.out (if_neg (by omega)) _ ⟨_, HM2.out⟩, HK2.out⟩
  rw [if_pos h2] at he
  obtain ⟨rfl, hD2⟩ := he
  obtain ⟨kind, hkind⟩ : ∃ x, x = beV ((B.drop (at_ + 1)).take 1) := ⟨_, rfl⟩
  rw [← hkind]
  have HKIND := mkHid hkind
  have HD2 := mkHid hD2
  have hn2 := mkHid (number_calls w0 w2 g B (at_ + 2) 1 (by decide) hD2)
  clear hkind hD2 h2
  go_wp2_with fail
  refine hn2.out.mono ?_
  rintro e w3 ⟨he, hk⟩
  have HK3 : Hid (Kt s g gu w w3) := mkHid (HK2.out.trans (hk.kt hsg (Nat.le_trans HSW.out HK2.out.below.size)))
  obtain ⟨cl, hcl⟩ := HD2.out.blk
  have HM3 := mkHid (HM2.out.kg hk hcl hne)
  clear hk hcl
  unfold NumE at he
  by_cases h3 : at_ + 2 + 1 ≤ B.length
  case neg =>
    rw [if_neg h3] at he
    subst he
    exact ⟨rfl, HN.out (if_neg (by omega)) _ ⟨_, HM3.out⟩, HK3.out⟩
  rw [if_pos h3] at he
  obtain ⟨rfl, hD3⟩ := he
  obtain ⟨nx, hnx⟩ : ∃ x, x = beV ((B.drop (at_ + 2)).take 1) := ⟨_, rfl⟩
  rw [← hnx]
  have hnr := beV_rng 1 ((B.drop (at_ + 2)).take 1) (by rw [List.length_take, List.length_drop]; omega) ((HU.out.drop _).take _)
  rw [← hnx] at hnr
  obtain ⟨n, rfl⟩ : ∃ n : Nat, nx = (n : Int) := ⟨nx.toNat, by omega⟩
  have hn256 : n < 256 := by omega
  have HNX := mkHid hnx
  have HD3 := mkHid hD3
  have hpt := mkHid (part_calls w0 w3 g B (at_ + 3) n (by omega) hD3)
  have HA : Hid (attrV a B at_ = if at_ + 3 + n ≤ B.length then (payV a kind ((B.drop (at_ + 3)).take n)).map (fun x => (x, at_ + 3 + n)) else none) := mkHid (by
    unfold attrV
    rw [← hnx, ← HKIND.out, Int.toNat_natCast]
    by_cases h4 : at_ + 3 + n ≤ B.length
    · rw [if_pos ⟨h3, h4⟩, if_pos h4]
    · rw [if_neg (fun h => h4 h.2), if_neg h4])
  clear hnx hnr hD3 h3
  go_wp2_with fail
  refine hpt.out.mono ?_
  rintro e w4 ⟨he, hk⟩
  have HK4 : Hid (Kt s g gu w w4) := mkHid (HK3.out.trans (hk.kt hsg (Nat.le_trans HSW.out HK3.out.below.size)))
  obtain ⟨cl, hcl⟩ := HD3.out.blk
  have HM4 := mkHid (HM3.out.kg hk hcl hne)
  clear hk hcl
  unfold PartE at he
  by_cases h4 : at_ + 3 + n ≤ B.length
  case neg =>
    rw [if_neg h4] at he
    subst he
    exact ⟨rfl, HN.out (by rw [HA.out, if_neg h4]) _ ⟨_, HM4.out⟩, HK4.out⟩
  rw [if_pos h4] at he
  obtain ⟨gp, hgp, rfl, hP, hD4⟩ := he
  obtain ⟨P, hPP⟩ : ∃ P, P = (B.drop (at_ + 3)).take n := ⟨_, rfl⟩
  rw [← hPP] at hP
  have HA2 : Hid (attrV a B at_ = (payV a kind P).map (fun x => (x, at_ + 3 + n))) := mkHid (by rw [HA.out, if_pos h4, ← hPP])
  have HPL : Hid (P.length = n) := mkHid (by rw [hPP, List.length_take, List.length_drop]; omega)
  have HP := mkHid hP
  have HD4 := mkHid hD4
  have HGP : Hid (w.heap.size ≤ gp) := mkHid (Nat.le_trans HK3.out.below.size hgp)
  have hgug : gu ≠ gp := by
    obtain ⟨A3, A4, A6, n3, n4, n6, c3, c4, c6, g1, _⟩ := HM3.out.lies
    have := (Array.getElem?_eq_some_iff.1 g1).1
    omega
  have hggp : g ≠ gp := by have := HD3.out.lt; omega
  clear hPP hP hD4 hgp h4
  clear HA hpt hn1 hn2 ht HM1 HM2 HM3 HK1 HK2 HK3 HD1 HD2 HD3 HNX
  have HEND : Hid (∀ (X : World) (a' : S41) (pt : Nat), UpdM X gu s vW vT a' → Rdr w0 X gp P pt → Rdr w0 X g B (at_ + 3 + n) → Kt s g gu w X → payV a kind P = (if pt = P.length then some a' else none) →
      Calls Try.prog 45 #[.pointer (some ⟨gp, 0, none⟩)] X fun e X' => e = .returned (.int .i64 ((P.length : Int) - pt)) ∧ (pt = P.length → AttrE w0 g gu s vW vT a B at_ (.returned (.tuple #[])) X' ∧ Kt s g gu w X') ∧ (pt ≠ P.length → AttrE w0 g gu s vW vT a B at_ (.panicked [wrongP]) X' ∧ Kt s g gu w X')) := mkHid (fun X a' pt hM hPt hDt hKt hpay => (rest_calls w0 X gp P pt hPt).mono (fun e X' hh => by
    obtain ⟨h1, m, rfl⟩ := hh
    have hb := pw_below_drewN (Below.refl X.heap.size X) m
    obtain ⟨cl, hcl⟩ := hPt.blk
    have hM2 := hM.kg (Kg.of (g := gp) hb) hcl hgug
    have hK2 : Kt s g gu w (X.drewN m) := (Kg.of (g := gp) hb).ktn hKt HGP.out HSW.out
    refine ⟨h1, fun hp => ⟨.inr ⟨a', at_ + 3 + n, ?_, rfl, hM2, hDt.grown hb hDt.lt⟩, hK2⟩, fun hp => ⟨.inl ⟨?_, rfl, _, hM2⟩, hK2⟩⟩
    · rw [HA2.out, hpay, if_pos hp]; rfl
    · rw [HA2.out, hpay, if_neg hp]; rfl))
  by_cases hk1 : kind = 1
  · subst hk1
    have hnm := mkHid (number_calls w0 w4 gp P 0 1 (by decide) HP.out)
    go_wp2_with fail
    refine hnm.out.mono ?_
    rintro e w5 ⟨he, hk⟩
    obtain ⟨cl, hcl⟩ := HP.out.blk
    have HM5 := mkHid (HM4.out.kg hk hcl hgug)
    have HK5 : Hid (Kt s g gu w w5) := mkHid (hk.ktn HK4.out HGP.out HSW.out)
    have HD5 : Hid (Rdr w0 w5 g B (at_ + 3 + n)) := mkHid (HD4.out.kg hk HP.out.base hggp)
    clear hk hcl
    unfold NumE at he
    by_cases h5 : 0 + 1 ≤ P.length
    case neg =>
      rw [if_neg h5] at he
      subst he
      exact ⟨rfl, HN.out (by rw [HA2.out, pay1, if_neg (by omega)]; rfl) _ ⟨_, HM5.out⟩, HK5.out⟩
    rw [if_pos h5] at he
    obtain ⟨rfl, hP5⟩ := he
    have hP5 : Rdr w0 w5 gp P 1 := hP5
    obtain ⟨x, hx⟩ : ∃ x, x = beV ((P.drop 0).take 1) := ⟨_, rfl⟩
    rw [← hx]
    have hst := HM5.out.set2 x
    have hend := mkHid (HEND.out _ _ 1 hst.1 (hst.2.2.rdr hP5 (fun h => hgug h.symm) (Nat.le_trans hs0 hsu)) (hst.2.2.rdr HD5.out (fun h => hne h.symm) (Nat.le_trans hs0 hsu)) (hst.2.2.kt HK5.out hsu) (by rw [pay1, hx]))
    obtain ⟨z1, z2⟩ := hst.2.1
    clear hst hP5 h5 hx
    go_wp2_with fail
    refine hend.out.mono ?_
    rintro e w7 ⟨rfl, hy, hn⟩
    by_cases hp : 1 = P.length
    · have HF := mkHid (hy hp)
      have hd : (P.length : Int) - (1 : Nat) = 0 := by omega
      have hd2 : decide ((P.length : Int) - (1 : Nat) = 0) = true := decide_eq_true hd
      clear hy hn
      go_wp2_with fail
      refine (must_true _ _ _ (by first | exact hd2 | rfl | (simp; omega))).mono ?_
      rintro e w8 ⟨rfl, rfl⟩
      go_wp2_with fail
      exact bodyPost_end (results_none rfl _ _ _) rfl HF.out
    · have HF := mkHid (hn hp)
      have hd : ¬ (P.length : Int) - (1 : Nat) = 0 := by omega
      have hd2 : decide ((P.length : Int) - (1 : Nat) = 0) = false := decide_eq_false hd
      clear hy hn
      go_wp2_with fail
      refine (must_false _ _ _ (by first | exact hd2 | rfl | (simp; omega))).mono ?_
      rintro e w8 ⟨rfl, rfl⟩
      exact ⟨rfl, HF.out.1, HF.out.2⟩
  by_cases hk2 : kind = 2
  · subst hk2
    have hnm := mkHid (path_calls w0 w4 gp P 0 HP.out)
    go_wp2_with fail
    refine hnm.out.mono ?_
    rintro e w5 ⟨he, hk⟩
    obtain ⟨cl, hcl⟩ := HP.out.blk
    have HM5 := mkHid (HM4.out.kg hk hcl hgug)
    have HK5 : Hid (Kt s g gu w w5) := mkHid (hk.ktn HK4.out HGP.out HSW.out)
    have HD5 : Hid (Rdr w0 w5 g B (at_ + 3 + n)) := mkHid (HD4.out.kg hk HP.out.base hggp)
    clear hk hcl
    rcases he with ⟨hv, rfl⟩ | ⟨xs, A, nn, c, hv, hnn, rfl, hR, hP5⟩
    · exact ⟨rfl, HN.out (by rw [HA2.out, pay2, hv]; rfl) _ ⟨_, HM5.out⟩, HK5.out⟩
    obtain ⟨pl, hpl⟩ : ∃ x, x = P.length := ⟨_, rfl⟩
    rw [← hpl] at hP5
    have hst := HM5.out.set3 A nn c xs hnn (Kd.R_lower hR (Nat.le_trans HSW.out HK4.out.below.size))
    have hend := mkHid (HEND.out _ _ pl hst.1 (hst.2.2.rdr hP5 (fun h => hgug h.symm) (Nat.le_trans hs0 hsu)) (hst.2.2.rdr HD5.out (fun h => hne h.symm) (Nat.le_trans hs0 hsu)) (hst.2.2.kt HK5.out hsu) (by rw [pay2, hv, if_pos hpl]; rfl))
    obtain ⟨⟨z1, hz1⟩, z2⟩ := hst.2.1
    clear hst hP5 hR hv hnn
    go_wp2_with fail
    refine hend.out.mono ?_
    rintro e w7 ⟨rfl, hy, hn⟩
    by_cases hp : pl = P.length
    · have HF := mkHid (hy hp)
      have hd : (P.length : Int) - (pl : Nat) = 0 := by omega
      have hd2 : decide ((P.length : Int) - (pl : Nat) = 0) = true := decide_eq_true hd
      clear hy hn
      go_wp2_with fail
      refine (must_true _ _ _ (by first | exact hd2 | rfl | (simp; omega))).mono ?_
      rintro e w8 ⟨rfl, rfl⟩
      go_wp2_with fail
      exact bodyPost_end (results_none rfl _ _ _) rfl HF.out
    · have HF := mkHid (hn hp)
      have hd : ¬ (P.length : Int) - (pl : Nat) = 0 := by omega
      have hd2 : decide ((P.length : Int) - (pl : Nat) = 0) = false := decide_eq_false hd
      clear hy hn
      go_wp2_with fail
      refine (must_false _ _ _ (by first | exact hd2 | rfl | (simp; omega))).mono ?_
      rintro e w8 ⟨rfl, rfl⟩
      exact ⟨rfl, HF.out.1, HF.out.2⟩
  by_cases hk4 : kind = 4
  · subst hk4
    have hnm := mkHid (number_calls w0 w4 gp P 0 4 (by decide) HP.out)
    go_wp2_with fail
    refine hnm.out.mono ?_
    rintro e w5 ⟨he, hk⟩
    obtain ⟨cl, hcl⟩ := HP.out.blk
    have HM5 := mkHid (HM4.out.kg hk hcl hgug)
    have HK5 : Hid (Kt s g gu w w5) := mkHid (hk.ktn HK4.out HGP.out HSW.out)
    have HD5 : Hid (Rdr w0 w5 g B (at_ + 3 + n)) := mkHid (HD4.out.kg hk HP.out.base hggp)
    clear hk hcl
    unfold NumE at he
    by_cases h5 : 0 + 4 ≤ P.length
    case neg =>
      rw [if_neg h5] at he
      subst he
      exact ⟨rfl, HN.out (by rw [HA2.out, pay4, if_neg (by omega)]; rfl) _ ⟨_, HM5.out⟩, HK5.out⟩
    rw [if_pos h5] at he
    obtain ⟨rfl, hP5⟩ := he
    have hP5 : Rdr w0 w5 gp P 4 := hP5
    obtain ⟨x, hx⟩ : ∃ x, x = beV ((P.drop 0).take 4) := ⟨_, rfl⟩
    rw [← hx]
    have hst := HM5.out.set1 x
    have hend := mkHid (HEND.out _ _ 4 hst.1 (hst.2.2.rdr hP5 (fun h => hgug h.symm) (Nat.le_trans hs0 hsu)) (hst.2.2.rdr HD5.out (fun h => hne h.symm) (Nat.le_trans hs0 hsu)) (hst.2.2.kt HK5.out hsu) (by rw [pay4, hx]))
    obtain ⟨z1, z2⟩ := hst.2.1
    clear hst hP5 h5 hx
    go_wp2_with fail
    refine hend.out.mono ?_
    rintro e w7 ⟨rfl, hy, hn⟩
    by_cases hp : 4 = P.length
    · have HF := mkHid (hy hp)
      have hd : (P.length : Int) - (4 : Nat) = 0 := by omega
      have hd2 : decide ((P.length : Int) - (4 : Nat) = 0) = true := decide_eq_true hd
      clear hy hn
      go_wp2_with fail
      refine (must_true _ _ _ (by first | exact hd2 | rfl | (simp; omega))).mono ?_
      rintro e w8 ⟨rfl, rfl⟩
      go_wp2_with fail
      exact bodyPost_end (results_none rfl _ _ _) rfl HF.out
    · have HF := mkHid (hn hp)
      have hd : ¬ (P.length : Int) - (4 : Nat) = 0 := by omega
      have hd2 : decide ((P.length : Int) - (4 : Nat) = 0) = false := decide_eq_false hd
      clear hy hn
      go_wp2_with fail
      refine (must_false _ _ _ (by first | exact hd2 | rfl | (simp; omega))).mono ?_
      rintro e w8 ⟨rfl, rfl⟩
      exact ⟨rfl, HF.out.1, HF.out.2⟩
  by_cases hk5 : kind = 5
  · subst hk5
    have hnm := mkHid (number_calls w0 w4 gp P 0 4 (by decide) HP.out)
    go_wp2_with fail
    refine hnm.out.mono ?_
    rintro e w5 ⟨he, hk⟩
    obtain ⟨cl, hcl⟩ := HP.out.blk
    have HM5 := mkHid (HM4.out.kg hk hcl hgug)
    have HK5 : Hid (Kt s g gu w w5) := mkHid (hk.ktn HK4.out HGP.out HSW.out)
    have HD5 : Hid (Rdr w0 w5 g B (at_ + 3 + n)) := mkHid (HD4.out.kg hk HP.out.base hggp)
    clear hk hcl
    unfold NumE at he
    by_cases h5 : 0 + 4 ≤ P.length
    case neg =>
      rw [if_neg h5] at he
      subst he
      exact ⟨rfl, HN.out (by rw [HA2.out, pay5, if_neg (by omega)]; rfl) _ ⟨_, HM5.out⟩, HK5.out⟩
    rw [if_pos h5] at he
    obtain ⟨rfl, hP5⟩ := he
    have hP5 : Rdr w0 w5 gp P 4 := hP5
    obtain ⟨x, hx⟩ : ∃ x, x = beV ((P.drop 0).take 4) := ⟨_, rfl⟩
    rw [← hx]
    have hst := HM5.out.set0 x
    have hend := mkHid (HEND.out _ _ 4 hst.1 (hst.2.2.rdr hP5 (fun h => hgug h.symm) (Nat.le_trans hs0 hsu)) (hst.2.2.rdr HD5.out (fun h => hne h.symm) (Nat.le_trans hs0 hsu)) (hst.2.2.kt HK5.out hsu) (by rw [pay5, hx]))
    obtain ⟨z1, z2⟩ := hst.2.1
    clear hst hP5 h5 hx
    go_wp2_with fail
    refine hend.out.mono ?_
    rintro e w7 ⟨rfl, hy, hn⟩
    by_cases hp : 4 = P.length
    · have HF := mkHid (hy hp)
      have hd : (P.length : Int) - (4 : Nat) = 0 := by omega
      have hd2 : decide ((P.length : Int) - (4 : Nat) = 0) = true := decide_eq_true hd
      clear hy hn
      go_wp2_with fail
      refine (must_true _ _ _ (by first | exact hd2 | rfl | (simp; omega))).mono ?_
      rintro e w8 ⟨rfl, rfl⟩
      go_wp2_with fail
      exact bodyPost_end (results_none rfl _ _ _) rfl HF.out
    · have HF := mkHid (hn hp)
      have hd : ¬ (P.length : Int) - (4 : Nat) = 0 := by omega
      have hd2 : decide ((P.length : Int) - (4 : Nat) = 0) = false := decide_eq_false hd
      clear hy hn
      go_wp2_with fail
      refine (must_false _ _ _ (by first | exact hd2 | rfl | (simp; omega))).mono ?_
      rintro e w8 ⟨rfl, rfl⟩
      exact ⟨rfl, HF.out.1, HF.out.2⟩
  by_cases hk8 : kind = 8
  · subst hk8
    obtain ⟨k, hkk⟩ : ∃ k, k = P.length / 4 := ⟨_, rfl⟩
    obtain ⟨r, hr⟩ : ∃ r, r = P.length % 4 := ⟨_, rfl⟩
    have HLK : Hid (4 * k + r = P.length ∧ r < 4) := mkHid (by omega)
    have HPAY : Hid (payV a 8 P = if r = 0 then some { a with f4 := a.f4 ++ commsV k P } else none) := mkHid (by rw [pay8, ← hkk, ← hr])
    have hPL2 : P.length ≤ 255 := by have := HPL.out; omega
    clear hkk hr
    go_wp2_with fail
    go_loopg [45] k (fun kq v45 wr => ∃ i : Nat, i + kq = k ∧ Hid (UpdM wr gu s vW vT { a with f4 := a.f4 ++ commsV i P }) ∧ Hid (Rdr w0 wr gp P (4 * i)) ∧ Hid (Rdr w0 wr g B (at_ + 3 + n)) ∧ Hid (Kt s g gu w wr))
    case atStart => exact ⟨0, by omega, mkHid (by simp only [commsV, List.append_nil]; exact HM4.out), HP, HD4, HK4⟩
    case round =>
      obtain ⟨i, hik, HMr, HPr, HDr, HKr⟩ := hrel
      obtain ⟨p, hp⟩ : ∃ p, p = 4 * i := ⟨_, rfl⟩
      have hcr := mkHid (rest_calls w0 wr gp P p (by rw [hp]; exact HPr.out))
      by_cases hi : i < k
      · have hlt : p + 4 ≤ P.length := by have := HLK.out; omega
        have hd2 : p < P.length := by omega
        have hd : decide ((P.length : Int) - (p : Int) > 0) = true := decide_eq_true (by omega)
        go_wp2_with fail
        refine hcr.out.mono ?_
        rintro e w6 ⟨rfl, ⟨m, rfl⟩⟩
        have hb0 := pw_below_drewN (Below.refl wr.heap.size wr) m
        obtain ⟨W, hW⟩ : ∃ W, W = wr.drewN m := ⟨_, rfl⟩
        rw [← hW] at hb0 ⊢
        obtain ⟨clp, hclp⟩ := HPr.out.blk
        have HMW := mkHid (HMr.out.kg (Kg.of (g := gp) hb0) hclp hgug)
        have HPW : Hid (Rdr w0 W gp P p) := mkHid (by rw [hp]; exact HPr.out.grown hb0 HPr.out.lt)
        have HDW : Hid (Rdr w0 W g B (at_ + 3 + n)) := mkHid (HDr.out.grown hb0 HDr.out.lt)
        have HKW : Hid (Kt s g gu w W) := mkHid ((Kg.of (g := gp) hb0).ktn HKr.out HGP.out HSW.out)
        clear hW hb0 hclp
        obtain ⟨x1, hx1⟩ : ∃ x, x = beV ((P.drop p).take 2) := ⟨_, rfl⟩
        obtain ⟨x2, hx2⟩ : ∃ x, x = beV ((P.drop (p + 2)).take 2) := ⟨_, rfl⟩
        have HC1 : Hid (∀ wx, FN w0 W gp P p wx → Calls Try.prog 43 #[.pointer (some ⟨gp, 0, none⟩), .int .i64 2] wx fun e w' => e = .returned (.int .i64 x1) ∧ FN w0 W gp P (p + 2) w') := mkHid (fun wx hf => (number_calls w0 wx gp P p 2 (by decide) hf.rdr).mono (fun e w' hh => by
          have h1 := hh.1
          unfold NumE at h1
          rw [if_pos (by omega), ← hx1] at h1
          exact ⟨h1.1, hf.kg.trans hh.2, h1.2⟩))
        have HC2 : Hid (∀ wx, FN w0 W gp P (p + 2) wx → Calls Try.prog 43 #[.pointer (some ⟨gp, 0, none⟩), .int .i64 2] wx fun e w' => e = .returned (.int .i64 x2) ∧ FN w0 W gp P (p + 4) w') := mkHid (fun wx hf => (number_calls w0 wx gp P (p + 2) 2 (by decide) hf.rdr).mono (fun e w' hh => by
          have h1 := hh.1
          unfold NumE at h1
          rw [if_pos (by omega), ← hx2] at h1
          exact ⟨h1.1, hf.kg.trans hh.2, h1.2⟩))
        have HF0 : Hid (FN w0 W gp P p W) := mkHid ⟨Kg.refl _ _, HPW.out⟩
        obtain ⟨A3, A4, A6, n3, n4, n6, c3, c4, c6, g1, g2, g3, g4, g5, g6, g7⟩ := HMW.out.lies
        have z0 : W.cell? ⟨gu, 6, none⟩ = some (.slice A4 n4 c4) := blk_cell g1 6
        have HGU : Hid (∀ w', FN w0 W gp P (p + 2) w' ∨ FN w0 W gp P (p + 4) w' → w'.cell? ⟨gu, 6, none⟩ = some (.slice A4 n4 c4) ∧ w'.frozen? ⟨gu, 6, none⟩ = false) := mkHid (fun w' hf => by
          have hkg : Kg gp W w' := hf.elim (fun h => h.kg) (fun h => h.kg)
          have hq := (hkg.block gu (Array.getElem?_eq_some_iff.1 g1).1 hgug).trans g1
          exact ⟨blk_cell hq 6, blk_frozen hq 6⟩)
        have hl4 : n4 ≤ 200000 := by rw [g3]; simp only [List.length_append, commsV_len]; omega
        have G3 := mkHid g3
        have G6 := mkHid g6
        obtain ⟨clq, hclq⟩ := HPW.out.blk
        have HGR : Hid (∀ w', FN w0 W gp P (p + 4) w' → Kd.R k102 102 w' s (fun _ => True) (.slice A4 n4 c4) (a.f4 ++ commsV i P)) := mkHid (fun w' hf => R_keep2 g6 hclq (by decide) hf.kg.block)
        have HGL : Hid (∀ w', FN w0 W gp P (p + 4) w' → gu < w'.heap.size) := mkHid (fun w' hf => Nat.lt_of_lt_of_le (Array.getElem?_eq_some_iff.1 g1).1 hf.kg.size)
        have HSZ : Hid (∀ w', FN w0 W gp P (p + 4) w' → s ≤ w'.heap.size) := mkHid (fun w' hf => Nat.le_trans (Nat.le_trans HSW.out HKW.out.below.size) hf.kg.size)
        have HGB : Hid (∀ w' w8, FN w0 W gp P (p + 4) w' → World.grownBy w' w8 (Value.slice A4 n4 c4).ownBlock → w8.heap[gu]? = some (.cells #[vW, vT, .int .i64 a.f0, .int .i64 a.f1, .int .i64 a.f2, .slice A3 n3 c3, .slice A4 n4 c4, .int .i64 a.f5, .slice A6 n6 c6] 47 (0, 0))) := mkHid (fun w' w8 hf hg => by
          have hq := (hf.kg.block gu (Array.getElem?_eq_some_iff.1 g1).1 hgug).trans g1
          exact (hg.block gu (Array.getElem?_eq_some_iff.1 hq).1 (Kd.R_ne (HGR.out w' hf) hq (by decide))).trans hq)
        have G2 := mkHid g2
        have G4 := mkHid g4
        have G57 : Hid (∀ w', FN w0 W gp P (p + 4) w' → Kd.R (Kd.int .i64) 3 w' s (fun _ => True) (.slice A3 n3 c3) a.f3 ∧ Kd.R (Kd.int .i64) 3 w' s (fun _ => True) (.slice A6 n6 c6) a.f6) := mkHid (fun w' hf => ⟨R_keep2 g5 hclq (by decide) hf.kg.block, R_keep2 g7 hclq (by decide) hf.kg.block⟩)
        have HXX : Hid (commsV (i + 1) P = commsV i P ++ [⟨x1, x2⟩]) := mkHid (by rw [commsV, hx1, hx2, hp])
        have HP4 : Hid (p + 4 = 4 * (i + 1)) := mkHid (by omega)
        clear g1 g2 g3 g4 g5 g6 g7 hx1 hx2 hlt hp hclq
        go_upto_region 14 with fail
        go_region_law (first
          | (refine Kd.R_append_step k102 (w0 := w7) s ?a1 (.tmp 54) (.tmp 60) 39 102 (.agg #[(.int .i64 0), (.int .i64 0)]) 16 ?a2 ?a3 ?a4 ?a5 ?a6 ?a7 (.slice A4 n4 c4) (a.f4 ++ commsV i P) ⟨x1, x2⟩ [.int .i64 x1, .int .i64 x2] (fun _ => True) (fun _ => False) ?a8 ?a9 ?aP ?aE ?aF ?aO ?aB ?aS ?aL ?_; (case a1 => rfl); (case a2 => rfl); (case a3 => exact Try.underlying39); (case a4 => exact info102w); (case a5 => rfl); (case a6 => decide); (case a7 => omega); (case a8 => rfl); (case a9 => rfl); (case aP => exact k102_mkM _ _ _ ⟨x1, x2⟩); (case aE => exact fun _ h => h.elim); (case aF => exact fun _ _ => trivial); (case aO => exact HGR.out _ HF2.out); (case aB => exact Below.refl _ _); (case aS => exact HSZ.out _ HF2.out); (case aL => (rw [← G3.out]; omega)); intro v1 w8 hR8 hB8 hg8 _; obtain ⟨A5, c5, h5⟩ := Kd.R_slice hR8; obtain ⟨n5, hn5⟩ : ∃ n5 : Nat, n5 = ((a.f4 ++ commsV i P) ++ [(⟨x1, x2⟩ : S102)]).length := ⟨_, rfl⟩; rw [← hn5] at h5; subst h5; have HN5 := mkHid hn5; clear hn5; have HR8 := mkHid hR8; have HB8 := mkHid hB8; have HGR8 := mkHid hg8; (have hq8 := HGB.out _ _ HF2.out hg8); have HQ8 := mkHid hq8; have y4 := blk_cell hq8 6; have y5 := blk_frozen hq8 6; clear hq8 hR8 hB8 hg8)
          | (have hq2 := HF1.out; clear hq2; go_simp; go_at_call 43; refine (HC2.out _ (by repeat (first | exact HF1.out | apply FN.drew))).mono ?_; rintro e w7 ⟨rfl, hf⟩; have HF2 := mkHid hf; (obtain ⟨y2, y3⟩ := HGU.out w7 (.inr hf)); have y6 := HGL.out w7 hf; have y7 : (gu = w7.heap.size) = False := (by simp; omega); clear hf)
          | (go_simp; go_at_call 43; refine (HC1.out _ (by repeat (first | exact HF0.out | apply FN.drew))).mono ?_; rintro e w6 ⟨rfl, hf⟩; have HF1 := mkHid hf; (obtain ⟨y0, y1⟩ := HGU.out w6 (.inl hf)); clear hf))
        all_goals
          have hmore := comm_more hs0 hsu HSW.out HGP.out hgug hggp hne HF2.out HGR8.out HB8.out HQ8.out G2.out G4.out HN5.out (G57.out _ HF2.out).1 _ (HGR.out _ HF2.out) (G57.out _ HF2.out).2 HR8.out HDW.out HKW.out
          have HMORE := mkHid hmore
          clear hmore
          go_wp2_with fail
          go_roundg (gk - 1)
          case measure => omega
          case rel => exact ⟨i + 1, by omega, mkHid (by rw [HXX.out, ← List.append_assoc]; exact HMORE.out.1), mkHid (by rw [← HP4.out]; exact HMORE.out.2.1), mkHid HMORE.out.2.2.1, mkHid HMORE.out.2.2.2⟩
      · have hkk2 : i = k := by omega
        subst hkk2
        by_cases hr0 : r = 0
        · have hpP : p = P.length := by have := HLK.out; omega
          have hd2 : ¬ p < P.length := by omega
          have hd : decide ((P.length : Int) - (p : Int) > 0) = false := decide_eq_false (by omega)
          have HPP := mkHid hpP
          clear hpP
          go_wp2_with fail
          refine hcr.out.mono ?_
          rintro e w6 ⟨rfl, ⟨m, rfl⟩⟩
          have hb0 := pw_below_drewN (Below.refl wr.heap.size wr) m
          obtain ⟨clp, hclp⟩ := HPr.out.blk
          have hend := mkHid (HEND.out (wr.drewN m) _ p (HMr.out.kg (Kg.of (g := gp) hb0) hclp hgug) (by rw [hp]; exact HPr.out.grown hb0 HPr.out.lt) (HDr.out.grown hb0 HDr.out.lt) ((Kg.of (g := gp) hb0).ktn HKr.out HGP.out HSW.out) (by rw [HPAY.out, if_pos hr0, if_pos HPP.out]))
          clear hb0 hclp
          go_wp2_with fail
          refine hend.out.mono ?_
          rintro e w7 ⟨rfl, hy, hn⟩
          by_cases hp : p = P.length
          · have HF := mkHid (hy hp)
            have hd : (P.length : Int) - (p : Nat) = 0 := by omega
            have hd2 : decide ((P.length : Int) - (p : Nat) = 0) = true := decide_eq_true hd
            clear hy hn
            go_wp2_with fail
            refine (must_true _ _ _ (by first | exact hd2 | rfl | (simp; omega))).mono ?_
            rintro e w8 ⟨rfl, rfl⟩
            go_wp2_with fail
            exact bodyPost_end (results_none rfl _ _ _) rfl HF.out
          · have HF := mkHid (hn hp)
            have hd : ¬ (P.length : Int) - (p : Nat) = 0 := by omega
            have hd2 : decide ((P.length : Int) - (p : Nat) = 0) = false := decide_eq_false hd
            clear hy hn
            go_wp2_with fail
            refine (must_false _ _ _ (by first | exact hd2 | rfl | (simp; omega))).mono ?_
            rintro e w8 ⟨rfl, rfl⟩
            exact ⟨rfl, HF.out.1, HF.out.2⟩
        · have hd2 : p < P.length := by have := HLK.out; omega
          have hd : decide ((P.length : Int) - (p : Int) > 0) = true := decide_eq_true (by omega)
          have HNO : Hid (attrV a B at_ = none) := mkHid (by rw [HA2.out, HPAY.out, if_neg hr0]; rfl)
          have HLT4 : Hid (P.length < p + 4) := mkHid (by have := HLK.out; omega)
          go_wp2_with fail
          refine hcr.out.mono ?_
          rintro e w6 ⟨rfl, ⟨m, rfl⟩⟩
          have hb0 := pw_below_drewN (Below.refl wr.heap.size wr) m
          obtain ⟨W, hW⟩ : ∃ W, W = wr.drewN m := ⟨_, rfl⟩
          rw [← hW] at hb0 ⊢
          obtain ⟨clp, hclp⟩ := HPr.out.blk
          have HMW := mkHid (HMr.out.kg (Kg.of (g := gp) hb0) hclp hgug)
          have HPW : Hid (Rdr w0 W gp P p) := mkHid (by rw [hp]; exact HPr.out.grown hb0 HPr.out.lt)
          have HKW : Hid (Kt s g gu w W) := mkHid ((Kg.of (g := gp) hb0).ktn HKr.out HGP.out HSW.out)
          clear hW hb0 hclp
          have HF0 : Hid (FN w0 W gp P p W) := mkHid ⟨Kg.refl _ _, HPW.out⟩
          obtain ⟨A3, A4, A6, n3, n4, n6, c3, c4, c6, g1, g2, g3, g4, g5, g6, g7⟩ := HMW.out.lies
          have z0 : W.cell? ⟨gu, 6, none⟩ = some (.slice A4 n4 c4) := blk_cell g1 6
          have HGU : Hid (∀ w', FN w0 W gp P (p + 2) w' → w'.cell? ⟨gu, 6, none⟩ = some (.slice A4 n4 c4) ∧ w'.frozen? ⟨gu, 6, none⟩ = false) := mkHid (fun w' hf => by
            have hq := (hf.kg.block gu (Array.getElem?_eq_some_iff.1 g1).1 hgug).trans g1
            exact ⟨blk_cell hq 6, blk_frozen hq 6⟩)
          obtain ⟨clq, hclq⟩ := HPW.out.blk
          have HEP : Hid (∀ w', Kg gp W w' → AttrE w0 g gu s vW vT a B at_ (.panicked [wrongP]) w' ∧ Kt s g gu w w') := mkHid (fun w' hk => ⟨HN.out HNO.out _ ⟨_, HMW.out.kg hk hclq hgug⟩, hk.ktn HKW.out HGP.out HSW.out⟩)
          clear g1 g2 g3 g4 g5 g6 g7 hp hclq
          by_cases hlt2 : p + 2 ≤ P.length
          · obtain ⟨x1, hx1⟩ : ∃ x, x = beV ((P.drop p).take 2) := ⟨_, rfl⟩
            have HC1 : Hid (∀ wx, FN w0 W gp P p wx → Calls Try.prog 43 #[.pointer (some ⟨gp, 0, none⟩), .int .i64 2] wx fun e w' => e = .returned (.int .i64 x1) ∧ FN w0 W gp P (p + 2) w') := mkHid (fun wx hf => (number_calls w0 wx gp P p 2 (by decide) hf.rdr).mono (fun e w' hh => by
              have h1 := hh.1
              unfold NumE at h1
              rw [if_pos (by omega), ← hx1] at h1
              exact ⟨h1.1, hf.kg.trans hh.2, h1.2⟩))
            have HC2 : Hid (∀ wx, FN w0 W gp P (p + 2) wx → Calls Try.prog 43 #[.pointer (some ⟨gp, 0, none⟩), .int .i64 2] wx fun e w' => e = .panicked [wrongP] ∧ Kg gp W w') := mkHid (fun wx hf => (number_calls w0 wx gp P (p + 2) 2 (by decide) hf.rdr).mono (fun e w' hh => by
              have h1 := hh.1
              unfold NumE at h1
              rw [if_neg (by have := HLT4.out; omega)] at h1
              exact ⟨h1, hf.kg.trans hh.2⟩))
            clear hx1
            go_upto_region 14 with fail
            refine wp_region_held_drew (S := (fun w' => w'.cell? ⟨gu, 6, none⟩ = some (.slice A4 n4 c4))) (by kernel_rfl) z0 (fun hHeld => ?_)
            refine wpAnyH_take (i := 0) (oi := _) (v := ?_) rfl (by kernel_rfl) (by kernel_rfl) (by kernel_rfl) (fun _ _ _ h => h) (Or.inl ⟨by first | (simp [Region.wanted, yielded]; done) | rfl, ?_⟩) (by assumption) ?_
            rotate_left
            · intro w hSw
              first | (go_simp; done) | (go_simp; with_reducible rfl)
            (try simp only [Act.put, List.getElem_toArray, List.getElem_cons_succ, List.getElem_cons_zero, List.setIfInBounds_toArray, List.set_cons_zero, List.set_cons_succ])
            refine wpAnyH_take (i := 1) (oi := _) (v := ?_) rfl (by kernel_rfl) (by kernel_rfl) (by kernel_rfl) (fun _ _ _ h => h) (Or.inl ⟨by first | (simp [Region.wanted, yielded]; done) | rfl, ?_⟩) (by assumption) ?_
            rotate_left
            · intro w hSw
              first | (go_simp; done) | (go_simp; with_reducible rfl)
            (try simp only [Act.put, List.getElem_toArray, List.getElem_cons_succ, List.getElem_cons_zero, List.setIfInBounds_toArray, List.set_cons_zero, List.set_cons_succ])
            refine wpAnyH_take (i := 2) (oi := _) (v := ?_) rfl (by kernel_rfl) (by kernel_rfl) (by kernel_rfl) (fun _ _ _ h => h) (Or.inl ⟨by first | (simp [Region.wanted, yielded]; done) | rfl, ?_⟩) (by assumption) ?_
            rotate_left
            · intro w hSw
              first | (go_simp; done) | (go_simp; with_reducible rfl)
            (try simp only [Act.put, List.getElem_toArray, List.getElem_cons_succ, List.getElem_cons_zero, List.setIfInBounds_toArray, List.set_cons_zero, List.set_cons_succ])
            refine wpAnyH_take (i := 3) (oi := _) (v := ?_) rfl (by kernel_rfl) (by kernel_rfl) (by kernel_rfl) (fun _ _ _ h => h) (Or.inl ⟨by first | (simp [Region.wanted, yielded]; done) | rfl, ?_⟩) (by assumption) ?_
            rotate_left
            · intro w hSw
              first | (go_simp; done) | (go_simp; with_reducible rfl)
            (try simp only [Act.put, List.getElem_toArray, List.getElem_cons_succ, List.getElem_cons_zero, List.setIfInBounds_toArray, List.set_cons_zero, List.set_cons_succ])
            refine wpAnyH_take (i := 4) (oi := _) (v := ?_) rfl (by kernel_rfl) (by kernel_rfl) (by kernel_rfl) (fun _ _ _ h => h) (Or.inl ⟨by first | (simp [Region.wanted, yielded]; done) | rfl, ?_⟩) (by assumption) ?_
            rotate_left
            · intro w hSw
              first | (go_simp; done) | (go_simp; with_reducible rfl)
            (try simp only [Act.put, List.getElem_toArray, List.getElem_cons_succ, List.getElem_cons_zero, List.setIfInBounds_toArray, List.set_cons_zero, List.set_cons_succ])
            refine wpAnyH_take (i := 5) (oi := _) (v := ?_) rfl (by kernel_rfl) (by kernel_rfl) (by kernel_rfl) (fun _ _ _ h => h) (Or.inl ⟨by first | (simp [Region.wanted, yielded]; done) | rfl, ?_⟩) (by assumption) ?_
            rotate_left
            · intro w hSw
              first | (go_simp; done) | (go_simp; with_reducible rfl)
            (try simp only [Act.put, List.getElem_toArray, List.getElem_cons_succ, List.getElem_cons_zero, List.setIfInBounds_toArray, List.set_cons_zero, List.set_cons_succ])
            refine wpAnyH_take (i := 7) (oi := _) (v := ?_) rfl (by kernel_rfl) (by kernel_rfl) (by kernel_rfl) (fun _ _ _ h => h) (Or.inl ⟨by first | (simp [Region.wanted, yielded]; done) | rfl, ?_⟩) (by assumption) ?_
            rotate_left
            · intro w hSw
              first | (go_simp; done) | (go_simp; with_reducible rfl)
            (try simp only [Act.put, List.getElem_toArray, List.getElem_cons_succ, List.getElem_cons_zero, List.setIfInBounds_toArray, List.set_cons_zero, List.set_cons_succ])
            refine wpAnyH_ready (rs := [6]) (by kernel_rfl) (by simp) (AllReadyH.cons (o := _) rfl (fun K_ hK_ => ?_) AllReadyH.nil)
            go_simp
            refine (HC1.out _ HF0.out.drew).mono ?_
            rintro e w6 ⟨rfl, hf⟩
            have HF1 := mkHid hf
            refine hK_.out _ _ (HGU.out _ hf).1 (fun hHeld => ?_)
            clear hK_ K_
            (try simp only [Act.put, List.getElem_toArray, List.getElem_cons_succ, List.getElem_cons_zero, List.setIfInBounds_toArray, List.set_cons_zero, List.set_cons_succ])
            refine wpAnyH_ready (rs := [8]) (by kernel_rfl) (by simp) (AllReadyH.cons (o := _) rfl (fun K_ hK_ => ?_) AllReadyH.nil)
            go_simp
            refine (HC2.out _ HF1.out).mono ?_
            rintro e w7 ⟨rfl, hf⟩
            exact ⟨rfl, (HEP.out _ hf).1, (HEP.out _ hf).2⟩
          · have HC1 : Hid (∀ wx, FN w0 W gp P p wx → Calls Try.prog 43 #[.pointer (some ⟨gp, 0, none⟩), .int .i64 2] wx fun e w' => e = .panicked [wrongP] ∧ Kg gp W w') := mkHid (fun wx hf => (number_calls w0 wx gp P p 2 (by decide) hf.rdr).mono (fun e w' hh => by
              have h1 := hh.1
              unfold NumE at h1
              rw [if_neg hlt2] at h1
              exact ⟨h1, hf.kg.trans hh.2⟩))
            go_upto_region 14 with fail
            refine wp_region_held_drew (S := (fun w' => w'.cell? ⟨gu, 6, none⟩ = some (.slice A4 n4 c4))) (by kernel_rfl) z0 (fun hHeld => ?_)
            refine wpAnyH_take (i := 0) (oi := _) (v := ?_) rfl (by kernel_rfl) (by kernel_rfl) (by kernel_rfl) (fun _ _ _ h => h) (Or.inl ⟨by first | (simp [Region.wanted, yielded]; done) | rfl, ?_⟩) (by assumption) ?_
            rotate_left
            · intro w hSw
              first | (go_simp; done) | (go_simp; with_reducible rfl)
            (try simp only [Act.put, List.getElem_toArray, List.getElem_cons_succ, List.getElem_cons_zero, List.setIfInBounds_toArray, List.set_cons_zero, List.set_cons_succ])
            refine wpAnyH_take (i := 1) (oi := _) (v := ?_) rfl (by kernel_rfl) (by kernel_rfl) (by kernel_rfl) (fun _ _ _ h => h) (Or.inl ⟨by first | (simp [Region.wanted, yielded]; done) | rfl, ?_⟩) (by assumption) ?_
            rotate_left
            · intro w hSw
              first | (go_simp; done) | (go_simp; with_reducible rfl)
            (try simp only [Act.put, List.getElem_toArray, List.getElem_cons_succ, List.getElem_cons_zero, List.setIfInBounds_toArray, List.set_cons_zero, List.set_cons_succ])
            refine wpAnyH_take (i := 2) (oi := _) (v := ?_) rfl (by kernel_rfl) (by kernel_rfl) (by kernel_rfl) (fun _ _ _ h => h) (Or.inl ⟨by first | (simp [Region.wanted, yielded]; done) | rfl, ?_⟩) (by assumption) ?_
            rotate_left
            · intro w hSw
              first | (go_simp; done) | (go_simp; with_reducible rfl)
            (try simp only [Act.put, List.getElem_toArray, List.getElem_cons_succ, List.getElem_cons_zero, List.setIfInBounds_toArray, List.set_cons_zero, List.set_cons_succ])
            refine wpAnyH_take (i := 3) (oi := _) (v := ?_) rfl (by kernel_rfl) (by kernel_rfl) (by kernel_rfl) (fun _ _ _ h => h) (Or.inl ⟨by first | (simp [Region.wanted, yielded]; done) | rfl, ?_⟩) (by assumption) ?_
            rotate_left
            · intro w hSw
              first | (go_simp; done) | (go_simp; with_reducible rfl)
            (try simp only [Act.put, List.getElem_toArray, List.getElem_cons_succ, List.getElem_cons_zero, List.setIfInBounds_toArray, List.set_cons_zero, List.set_cons_succ])
            refine wpAnyH_take (i := 4) (oi := _) (v := ?_) rfl (by kernel_rfl) (by kernel_rfl) (by kernel_rfl) (fun _ _ _ h => h) (Or.inl ⟨by first | (simp [Region.wanted, yielded]; done) | rfl, ?_⟩) (by assumption) ?_
            rotate_left
            · intro w hSw
              first | (go_simp; done) | (go_simp; with_reducible rfl)
            (try simp only [Act.put, List.getElem_toArray, List.getElem_cons_succ, List.getElem_cons_zero, List.setIfInBounds_toArray, List.set_cons_zero, List.set_cons_succ])
            refine wpAnyH_take (i := 5) (oi := _) (v := ?_) rfl (by kernel_rfl) (by kernel_rfl) (by kernel_rfl) (fun _ _ _ h => h) (Or.inl ⟨by first | (simp [Region.wanted, yielded]; done) | rfl, ?_⟩) (by assumption) ?_
            rotate_left
            · intro w hSw
              first | (go_simp; done) | (go_simp; with_reducible rfl)
            (try simp only [Act.put, List.getElem_toArray, List.getElem_cons_succ, List.getElem_cons_zero, List.setIfInBounds_toArray, List.set_cons_zero, List.set_cons_succ])
            refine wpAnyH_take (i := 7) (oi := _) (v := ?_) rfl (by kernel_rfl) (by kernel_rfl) (by kernel_rfl) (fun _ _ _ h => h) (Or.inl ⟨by first | (simp [Region.wanted, yielded]; done) | rfl, ?_⟩) (by assumption) ?_
            rotate_left
            · intro w hSw
              first | (go_simp; done) | (go_simp; with_reducible rfl)
            (try simp only [Act.put, List.getElem_toArray, List.getElem_cons_succ, List.getElem_cons_zero, List.setIfInBounds_toArray, List.set_cons_zero, List.set_cons_succ])
            refine wpAnyH_ready (rs := [6]) (by kernel_rfl) (by simp) (AllReadyH.cons (o := _) rfl (fun K_ hK_ => ?_) AllReadyH.nil)
            go_simp
            refine (HC1.out _ HF0.out.drew).mono ?_
            rintro e w7 ⟨rfl, hf⟩
            exact ⟨rfl, (HEP.out _ hf).1, (HEP.out _ hf).2⟩
  by_cases hk9 : kind = 9
  · subst hk9
    have hnm := mkHid (number_calls w0 w4 gp P 0 4 (by decide) HP.out)
    go_wp2_with fail
    refine hnm.out.mono ?_
    rintro e w5 ⟨he, hk⟩
    obtain ⟨cl, hcl⟩ := HP.out.blk
    have HM5 := mkHid (HM4.out.kg hk hcl hgug)
    have HK5 : Hid (Kt s g gu w w5) := mkHid (hk.ktn HK4.out HGP.out HSW.out)
    have HD5 : Hid (Rdr w0 w5 g B (at_ + 3 + n)) := mkHid (HD4.out.kg hk HP.out.base hggp)
    clear hk hcl
    unfold NumE at he
    by_cases h5 : 0 + 4 ≤ P.length
    case neg =>
      rw [if_neg h5] at he
      subst he
      exact ⟨rfl, HN.out (by rw [HA2.out, pay9, if_neg (by omega)]; rfl) _ ⟨_, HM5.out⟩, HK5.out⟩
    rw [if_pos h5] at he
    obtain ⟨rfl, hP5⟩ := he
    have hP5 : Rdr w0 w5 gp P 4 := hP5
    obtain ⟨x, hx⟩ : ∃ x, x = beV ((P.drop 0).take 4) := ⟨_, rfl⟩
    rw [← hx]
    have hst := HM5.out.set5 x
    have hend := mkHid (HEND.out _ _ 4 hst.1 (hst.2.2.rdr hP5 (fun h => hgug h.symm) (Nat.le_trans hs0 hsu)) (hst.2.2.rdr HD5.out (fun h => hne h.symm) (Nat.le_trans hs0 hsu)) (hst.2.2.kt HK5.out hsu) (by rw [pay9, hx]))
    obtain ⟨z1, z2⟩ := hst.2.1
    clear hst hP5 h5 hx
    go_wp2_with fail
    refine hend.out.mono ?_
    rintro e w7 ⟨rfl, hy, hn⟩
    by_cases hp : 4 = P.length
    · have HF := mkHid (hy hp)
      have hd : (P.length : Int) - (4 : Nat) = 0 := by omega
      have hd2 : decide ((P.length : Int) - (4 : Nat) = 0) = true := decide_eq_true hd
      clear hy hn
      go_wp2_with fail
      refine (must_true _ _ _ (by first | exact hd2 | rfl | (simp; omega))).mono ?_
      rintro e w8 ⟨rfl, rfl⟩
      go_wp2_with fail
      exact bodyPost_end (results_none rfl _ _ _) rfl HF.out
    · have HF := mkHid (hn hp)
      have hd : ¬ (P.length : Int) - (4 : Nat) = 0 := by omega
      have hd2 : decide ((P.length : Int) - (4 : Nat) = 0) = false := decide_eq_false hd
      clear hy hn
      go_wp2_with fail
      refine (must_false _ _ _ (by first | exact hd2 | rfl | (simp; omega))).mono ?_
      rintro e w8 ⟨rfl, rfl⟩
      exact ⟨rfl, HF.out.1, HF.out.2⟩
  by_cases hk10 : kind = 10
  · subst hk10
    obtain ⟨k, hkk⟩ : ∃ k, k = P.length / 4 := ⟨_, rfl⟩
    obtain ⟨r, hr⟩ : ∃ r, r = P.length % 4 := ⟨_, rfl⟩
    have hnm := mkHid (numbers_calls w0 w4 gp P 0 4 k r (by decide) (by decide) (by omega) (by omega) HP.out)
    go_wp2_with fail
    refine hnm.out.mono ?_
    rintro e w5 ⟨he, hk⟩
    obtain ⟨cl, hcl⟩ := HP.out.blk
    have HM5 := mkHid (HM4.out.kg hk hcl hgug)
    have HK5 : Hid (Kt s g gu w w5) := mkHid (hk.ktn HK4.out HGP.out HSW.out)
    have HD5 : Hid (Rdr w0 w5 g B (at_ + 3 + n)) := mkHid (HD4.out.kg hk HP.out.base hggp)
    clear hk hcl
    unfold NumsE at he
    by_cases h5 : r = 0
    case neg =>
      rw [if_neg h5] at he
      subst he
      exact ⟨rfl, HN.out (by rw [HA2.out, pay10, if_neg (by omega)]; rfl) _ ⟨_, HM5.out⟩, HK5.out⟩
    rw [if_pos h5] at he
    obtain ⟨A, c, rfl, hR, hP5⟩ := he
    obtain ⟨xs, hxs⟩ : ∃ xs, xs = numsV 4 k (P.drop 0) := ⟨_, rfl⟩
    rw [← hxs] at hR
    obtain ⟨pl, hpl⟩ : ∃ x, x = P.length := ⟨_, rfl⟩
    rw [← hpl] at hP5
    have hst := HM5.out.set6 A k c xs (by rw [hxs, numsV_len]) (Kd.R_lower hR (Nat.le_trans HSW.out HK4.out.below.size))
    have hend := mkHid (HEND.out _ _ pl hst.1 (hst.2.2.rdr hP5 (fun h => hgug h.symm) (Nat.le_trans hs0 hsu)) (hst.2.2.rdr HD5.out (fun h => hne h.symm) (Nat.le_trans hs0 hsu)) (hst.2.2.kt HK5.out hsu) (by rw [pay10, if_pos (by omega), if_pos hpl, hxs, hkk]; rfl))
    obtain ⟨⟨z1, hz1⟩, z2⟩ := hst.2.1
    clear hst hP5 hR hxs hkk hr h5
    go_wp2_with fail
    refine hend.out.mono ?_
    rintro e w7 ⟨rfl, hy, hn⟩
    by_cases hp : pl = P.length
    · have HF := mkHid (hy hp)
      have hd : (P.length : Int) - (pl : Nat) = 0 := by omega
      have hd2 : decide ((P.length : Int) - (pl : Nat) = 0) = true := decide_eq_true hd
      clear hy hn
      go_wp2_with fail
      refine (must_true _ _ _ (by first | exact hd2 | rfl | (simp; omega))).mono ?_
      rintro e w8 ⟨rfl, rfl⟩
      go_wp2_with fail
      exact bodyPost_end (results_none rfl _ _ _) rfl HF.out
    · have HF := mkHid (hn hp)
      have hd : ¬ (P.length : Int) - (pl : Nat) = 0 := by omega
      have hd2 : decide ((P.length : Int) - (pl : Nat) = 0) = false := decide_eq_false hd
      clear hy hn
      go_wp2_with fail
      refine (must_false _ _ _ (by first | exact hd2 | rfl | (simp; omega))).mono ?_
      rintro e w8 ⟨rfl, rfl⟩
      exact ⟨rfl, HF.out.1, HF.out.2⟩
  have hend := mkHid (HEND.out w4 a 0 HM4.out HP.out HD4.out HK4.out (by rw [payN _ _ _ hk1 hk2 hk4 hk5 hk8 hk9 hk10]))
  go_wp2_with fail
  refine hend.out.mono ?_
  rintro e w7 ⟨rfl, hy, hn⟩
  by_cases hp : 0 = P.length
  · have HF := mkHid (hy hp)
    have hd : (P.length : Int) - (0 : Nat) = 0 := by omega
    have hd2 : decide ((P.length : Int) - (0 : Nat) = 0) = true := decide_eq_true hd
    clear hy hn
    go_wp2_with fail
    refine (must_true _ _ _ (by first | exact hd2 | rfl | (simp; omega))).mono ?_
    rintro e w8 ⟨rfl, rfl⟩
    go_wp2_with fail
    exact bodyPost_end (results_none rfl _ _ _) rfl HF.out
  · have HF := mkHid (hn hp)
    have hd : ¬ (P.length : Int) - (0 : Nat) = 0 := by omega
    have hd2 : decide ((P.length : Int) - (0 : Nat) = 0) = false := decide_eq_false hd
    clear hy hn
    go_wp2_with fail
    refine (must_false _ _ _ (by first | exact hd2 | rfl | (simp; omega))).mono ?_
    rintro e w8 ⟨rfl, rfl⟩
    exact ⟨rfl, HF.out.1, HF.out.2⟩
end Go.Proofs.Ytjmpojfpbhihpaa

end
section
namespace Go.Proofs.Ytjmpojfpbhihpaa
open Go.RowKit Go.Proofs.Ytjmpojfpbhihpaa.P Go.Proofs.YtjmpojfpbhihpaaW.PrintWords Go.Proofs.YtjmpojfpbhihpaaW.PrintLast Go.Proofs.YtjmpojfpbhihpaaW.PrintMore
set_option linter.unusedVariables false
set_option linter.unusedSimpArgs false

theorem SetB.trans {gu : Nat} {a b c : World} (h : SetB gu a b) (k : SetB gu b c) : SetB gu a c := ⟨k.os.trans h.os, k.tape.trans h.tape, k.output.trans h.output, k.size.trans h.size, fun i hi => (k.block i hi).trans (h.block i hi)⟩
theorem given_idle (p q : Addr) (w : World) :
    CallsD Try.prog 41 #[.pointer (some p), .pointer (some q)] .returning w fun e u' w' => e = .returned (.tuple #[]) ∧ u' = .returning ∧ w' = w := by
  refine callsD_of_wpS Try.func41 rfl fun c₀ cs hu => ?_
  apply wpS_seq
  apply wpS_region
  simp [wpOpsS, go_sem, recoverD, hu, Try.ntmps41, Exit.thenS]
  apply wpS_seq
  apply wpS_region
  simp [wpOpsS, go_sem, recoverD, hu, Try.ntmps41, Exit.thenS]
  refine wpS_cond (t := false) (by simp [Act.eval, Array.replicate]) ?_
  simp only [Bool.false_eq_true, if_false]
  refine wpS_of_wp (wp_skip ?_)
  cases c₀
  simp_all [bodyPostS, results, Try.results41]
set_option maxHeartbeats 8000000 in
set_option maxRecDepth 100000 in
theorem given_panicking (gu ge : Nat) (v0 v1 v2 v3 v4 v5 v6 v7 v8 : Value) (x : Int) (older : List PanicEntry) (w : World) (hne : gu ≠ ge)
    (hg : w.heap[gu]? = some (.cells #[v0, v1, v2, v3, v4, v5, v6, v7, v8] 47 (0, 0))) (he : w.heap[ge]? = some (.cells #[.int .i64 x] 27 (0, 0))) :
    CallsD Try.prog 41 #[.pointer (some ⟨gu, 0, none⟩), .pointer (some ⟨ge, 0, none⟩)] (.panicking (wrongP :: older)) w fun e u' w' => e = .returned (.tuple #[]) ∧ u' = .panicking ({ wrongP with recovered := true } :: older) ∧
      w'.heap[gu]? = some (.cells #[.slice none 0 0, .slice none 0 0, .int .i64 0, .int .i64 0, .int .i64 0, .slice none 0 0, .slice none 0 0, .int .i64 0, .slice none 0 0] 47 (0, 0)) ∧ w'.heap[ge]? = some (.cells #[.int .i64 4] 27 (0, 0)) ∧
      w'.os = w.os ∧ w'.tape = w.tape ∧ w'.output = w.output ∧ w.heap.size ≤ w'.heap.size ∧ ∀ b, b < w.heap.size → b ≠ gu → b ≠ ge → w'.heap[b]? = w.heap[b]? := by
  refine callsD_of_wpS Try.func41 rfl fun c₀ cs hu => ?_
  apply wpS_seq
  apply wpS_region
  simp [wpOpsS, go_sem, recoverD, hu, Try.ntmps41, Exit.thenS, wrongP]
  apply wpS_seq
  apply wpS_region
  simp [wpOpsS, go_sem, recoverD, hu, Try.ntmps41, Exit.thenS, wrongP]
  refine wpS_cond (t := true) (by simp [Act.eval, Array.replicate]) ?_
  simp only [if_true]
  have q0 : w.cell? ⟨ge, 0, none⟩ = some (.int .i64 x) := blk_cell he 0
  have c0 : w.cell? ⟨gu, 0, none⟩ = some v0 := blk_cell hg 0
  have f0 : w.frozen? ⟨gu, 0, none⟩ = false := blk_frozen hg 0
  have c1 : w.cell? ⟨gu, 1, none⟩ = some v1 := blk_cell hg 1
  have f1 : w.frozen? ⟨gu, 1, none⟩ = false := blk_frozen hg 1
  have c2 : w.cell? ⟨gu, 2, none⟩ = some v2 := blk_cell hg 2
  have f2 : w.frozen? ⟨gu, 2, none⟩ = false := blk_frozen hg 2
  have c3 : w.cell? ⟨gu, 3, none⟩ = some v3 := blk_cell hg 3
  have f3 : w.frozen? ⟨gu, 3, none⟩ = false := blk_frozen hg 3
  have c4 : w.cell? ⟨gu, 4, none⟩ = some v4 := blk_cell hg 4
  have f4 : w.frozen? ⟨gu, 4, none⟩ = false := blk_frozen hg 4
  have c5 : w.cell? ⟨gu, 5, none⟩ = some v5 := blk_cell hg 5
  have f5 : w.frozen? ⟨gu, 5, none⟩ = false := blk_frozen hg 5
  have c6 : w.cell? ⟨gu, 6, none⟩ = some v6 := blk_cell hg 6
  have f6 : w.frozen? ⟨gu, 6, none⟩ = false := blk_frozen hg 6
  have c7 : w.cell? ⟨gu, 7, none⟩ = some v7 := blk_cell hg 7
  have f7 : w.frozen? ⟨gu, 7, none⟩ = false := blk_frozen hg 7
  have c8 : w.cell? ⟨gu, 8, none⟩ = some v8 := blk_cell hg 8
  have f8 : w.frozen? ⟨gu, 8, none⟩ = false := blk_frozen hg 8
  have hgl : gu < w.heap.size := (Array.getElem?_eq_some_iff.1 hg).1
  have hel : ge < w.heap.size := (Array.getElem?_eq_some_iff.1 he).1
  have hgn : (gu = w.heap.size) = False := by simp; omega
  have hen : (ge = w.heap.size) = False := by simp; omega
  have hne1 : (gu = ge) = False := by simp; omega
  have hne2 : (ge = gu) = False := by simp; omega
  have HG := mkHid hg
  have HE := mkHid he
  clear hg he
  have q1' : True := trivial
  have q1 : w.frozen? ⟨ge, 0, none⟩ = false := blk_frozen HE.out 0
  have hta : ∀ w, (Instr.typeAssert (Value.iface 73 (.agg #[])) 20 73 true).run Try.prog w = .ok (.tuple #[.agg #[], .bool true]) w := fun w => rfl
  have hfin : ∀ X, X = (((((((((((w.setCell ⟨gu, 0, none⟩ (.slice none 0 0)).setCell ⟨gu, 1, none⟩ (.slice none 0 0)).setCell ⟨gu, 2, none⟩ (.int .i64 0)).setCell ⟨gu, 3, none⟩ (.int .i64 0)).setCell ⟨gu, 4, none⟩ (.int .i64 0)).setCell ⟨gu, 5, none⟩ (.slice none 0 0)).setCell ⟨gu, 6, none⟩ (.slice none 0 0)).setCell ⟨gu, 7, none⟩ (.int .i64 0)).setCell ⟨gu, 8, none⟩ (.slice none 0 0)).setCell ⟨ge, 0, none⟩ (.int .i64 4)).alloc (.cells #[] 73)) → X.heap[gu]? = some (.cells #[.slice none 0 0, .slice none 0 0, .int .i64 0, .int .i64 0, .int .i64 0, .slice none 0 0, .slice none 0 0, .int .i64 0, .slice none 0 0] 47 (0, 0)) ∧ X.heap[ge]? = some (.cells #[.int .i64 4] 27 (0, 0)) ∧
      X.os = w.os ∧ X.tape = w.tape ∧ X.output = w.output ∧ w.heap.size ≤ X.heap.size ∧ ∀ b, b < w.heap.size → b ≠ gu → b ≠ ge → X.heap[b]? = w.heap[b]? := by
    intro X hX
    have sb0 : SetB gu w w := ⟨rfl, rfl, rfl, rfl, fun _ _ => rfl⟩
    have a0 := HG.out
    obtain ⟨U1, hU1⟩ : ∃ U, U = w.setCell ⟨gu, 0, none⟩ (.slice none 0 0) := ⟨_, rfl⟩
    rw [← hU1] at hX
    have a1 : U1.heap[gu]? = some (.cells #[(.slice none 0 0 : Value), v1, v2, v3, v4, v5, v6, v7, v8] 47 (0, 0)) := by rw [hU1]; exact blk_set a0 0 _
    have sb1 : SetB gu w U1 := sb0.trans (by rw [hU1]; exact SetB.of gu _ _ _)
    obtain ⟨U2, hU2⟩ : ∃ U, U = U1.setCell ⟨gu, 1, none⟩ (.slice none 0 0) := ⟨_, rfl⟩
    rw [← hU2] at hX
    have a2 : U2.heap[gu]? = some (.cells #[(.slice none 0 0 : Value), .slice none 0 0, v2, v3, v4, v5, v6, v7, v8] 47 (0, 0)) := by rw [hU2]; exact blk_set a1 1 _
    have sb2 : SetB gu w U2 := sb1.trans (by rw [hU2]; exact SetB.of gu _ _ _)
    obtain ⟨U3, hU3⟩ : ∃ U, U = U2.setCell ⟨gu, 2, none⟩ (.int .i64 0) := ⟨_, rfl⟩
    rw [← hU3] at hX
    have a3 : U3.heap[gu]? = some (.cells #[(.slice none 0 0 : Value), .slice none 0 0, .int .i64 0, v3, v4, v5, v6, v7, v8] 47 (0, 0)) := by rw [hU3]; exact blk_set a2 2 _
    have sb3 : SetB gu w U3 := sb2.trans (by rw [hU3]; exact SetB.of gu _ _ _)
    obtain ⟨U4, hU4⟩ : ∃ U, U = U3.setCell ⟨gu, 3, none⟩ (.int .i64 0) := ⟨_, rfl⟩
    rw [← hU4] at hX
    have a4 : U4.heap[gu]? = some (.cells #[(.slice none 0 0 : Value), .slice none 0 0, .int .i64 0, .int .i64 0, v4, v5, v6, v7, v8] 47 (0, 0)) := by rw [hU4]; exact blk_set a3 3 _
    have sb4 : SetB gu w U4 := sb3.trans (by rw [hU4]; exact SetB.of gu _ _ _)
    obtain ⟨U5, hU5⟩ : ∃ U, U = U4.setCell ⟨gu, 4, none⟩ (.int .i64 0) := ⟨_, rfl⟩
    rw [← hU5] at hX
    have a5 : U5.heap[gu]? = some (.cells #[(.slice none 0 0 : Value), .slice none 0 0, .int .i64 0, .int .i64 0, .int .i64 0, v5, v6, v7, v8] 47 (0, 0)) := by rw [hU5]; exact blk_set a4 4 _
    have sb5 : SetB gu w U5 := sb4.trans (by rw [hU5]; exact SetB.of gu _ _ _)
    obtain ⟨U6, hU6⟩ : ∃ U, U = U5.setCell ⟨gu, 5, none⟩ (.slice none 0 0) := ⟨_, rfl⟩
    rw [← hU6] at hX
    have a6 : U6.heap[gu]? = some (.cells #[(.slice none 0 0 : Value), .slice none 0 0, .int .i64 0, .int .i64 0, .int .i64 0, .slice none 0 0, v6, v7, v8] 47 (0, 0)) := by rw [hU6]; exact blk_set a5 5 _
    have sb6 : SetB gu w U6 := sb5.trans (by rw [hU6]; exact SetB.of gu _ _ _)
    obtain ⟨U7, hU7⟩ : ∃ U, U = U6.setCell ⟨gu, 6, none⟩ (.slice none 0 0) := ⟨_, rfl⟩
    rw [← hU7] at hX
    have a7 : U7.heap[gu]? = some (.cells #[(.slice none 0 0 : Value), .slice none 0 0, .int .i64 0, .int .i64 0, .int .i64 0, .slice none 0 0, .slice none 0 0, v7, v8] 47 (0, 0)) := by rw [hU7]; exact blk_set a6 6 _
    have sb7 : SetB gu w U7 := sb6.trans (by rw [hU7]; exact SetB.of gu _ _ _)
    obtain ⟨U8, hU8⟩ : ∃ U, U = U7.setCell ⟨gu, 7, none⟩ (.int .i64 0) := ⟨_, rfl⟩
    rw [← hU8] at hX
    have a8 : U8.heap[gu]? = some (.cells #[(.slice none 0 0 : Value), .slice none 0 0, .int .i64 0, .int .i64 0, .int .i64 0, .slice none 0 0, .slice none 0 0, .int .i64 0, v8] 47 (0, 0)) := by rw [hU8]; exact blk_set a7 7 _
    have sb8 : SetB gu w U8 := sb7.trans (by rw [hU8]; exact SetB.of gu _ _ _)
    obtain ⟨U9, hU9⟩ : ∃ U, U = U8.setCell ⟨gu, 8, none⟩ (.slice none 0 0) := ⟨_, rfl⟩
    rw [← hU9] at hX
    have a9 : U9.heap[gu]? = some (.cells #[(.slice none 0 0 : Value), .slice none 0 0, .int .i64 0, .int .i64 0, .int .i64 0, .slice none 0 0, .slice none 0 0, .int .i64 0, .slice none 0 0] 47 (0, 0)) := by rw [hU9]; exact blk_set a8 8 _
    have sb9 : SetB gu w U9 := sb8.trans (by rw [hU9]; exact SetB.of gu _ _ _)
    have e1 := a9
    have sb := sb9
    have e2 := (sb.block ge (fun h => hne h.symm)).trans HE.out
    have se := SetB.of ge U9 0 (.int .i64 4)
    have e4 := blk_set e2 0 (.int .i64 4)
    obtain ⟨W10, hW10⟩ : ∃ W10, W10 = U9.setCell ⟨ge, 0, none⟩ (.int .i64 4) := ⟨_, rfl⟩
    rw [← hW10] at e4 se hX
    rw [hX]
    have hsz : W10.heap.size = w.heap.size := se.size.trans sb.size
    refine ⟨blk_alloc ((se.block gu hne).trans e1) _, blk_alloc e4 _, se.os.trans sb.os, se.tape.trans sb.tape, se.output.trans sb.output, by rw [← hsz]; exact (Below.alloc (Below.refl _ W10) (Nat.le_refl _) (.cells #[] 73)).size, fun b hb hb1 hb2 => ?_⟩
    rw [Below.heap_alloc _ _ _ (by rw [hsz]; exact hb)]
    exact (se.block b hb2).trans (sb.block b hb1)
  have HFIN := mkHid hfin
  clear hfin
  refine wpS_of_wp ?_
  change Code.wp _ _ _ ⟨#[.pointer (some ⟨gu, 0, none⟩), .pointer (some ⟨ge, 0, none⟩), .iface 73 (.agg #[]), undef, undef, .iface 73 (.agg #[]), .iface 73 (.agg #[]), .bool true, undef, undef, undef, undef, undef, undef, undef, undef, undef], []⟩ _
  go_wp2_with fail
  generalize hX : World.alloc _ _ = X
  have hh := HFIN.out X hX.symm
  clear hX
  simp only [bodyPostS, results, Try.results41]
  refine ⟨trivial, _, rfl, .tuple #[], ?_, rfl, rfl, hh⟩
  first | rfl | simp
end Go.Proofs.Ytjmpojfpbhihpaa

end
section
namespace Go.Proofs.Ytjmpojfpbhihpaa
open Go.RowKit Go.Proofs.Ytjmpojfpbhihpaa.P Go.Proofs.YtjmpojfpbhihpaaW.PrintWords Go.Proofs.YtjmpojfpbhihpaaW.PrintLast Go.Proofs.YtjmpojfpbhihpaaW.PrintMore
set_option linter.unusedVariables false
set_option linter.unusedSimpArgs false


def noneU : Value := .agg #[.slice none 0 0, .slice none 0 0, .int .i64 0, .int .i64 0, .int .i64 0, .slice none 0 0, .slice none 0 0, .int .i64 0, .slice none 0 0]
set_option maxHeartbeats 8000000 in
set_option maxRecDepth 100000 in
theorem decode_short (w : World) (A : Option Addr) (n c : Nat) (h : n < 19) :
    Calls Try.prog 20 #[.slice A n c] w fun e w' => e = .returned (.tuple #[noneU, .int .i64 3]) ∧ Below w.heap.size w w' := by
  have hmf : ∀ (fn : Fn) (first cap : Array Value) (w : World), (Instr.makeFunc fn first cap).run Try.prog w = .ok (.func fn first cap) w := fun _ _ _ _ => rfl
  have hd : decide ((n : Int) < 19) = true := decide_eq_true (by omega)
  go_enter_defers Try.func20, Try.ntmps20
  have HB : Hid (Below w.heap.size w ((w.alloc (.cells #[.slice none 0 0, .slice none 0 0, .int .i64 0, .int .i64 0, .int .i64 0, .slice none 0 0, .slice none 0 0, .int .i64 0, .slice none 0 0] 47)).alloc (.cells #[.int .i64 3] 27))) := mkHid (below_allocs (below_allocs (Below.refl _ w) (Nat.le_refl _) _) (by simp) _)
  go_wp2_with fail
  simp [bodyPostD, Leaves, settle, results, Try.results20, go_sem, noneU]
  exact HB.out
end Go.Proofs.Ytjmpojfpbhihpaa

end
section
namespace Go.Proofs.Ytjmpojfpbhihpaa
open Go.RowKit Go.Proofs.Ytjmpojfpbhihpaa.P Go.Proofs.YtjmpojfpbhihpaaW.PrintWords Go.Proofs.YtjmpojfpbhihpaaW.PrintLast Go.Proofs.YtjmpojfpbhihpaaW.PrintMore
set_option linter.unusedVariables false
set_option linter.unusedSimpArgs false

theorem payV_f4 (a a' : S41) (kind : Int) (P : List Int) (h : payV a kind P = some a') : a'.f4.length ≤ a.f4.length + P.length := by
  unfold payV at h
  split at h
  · split at h
    · injection h with h; subst h; exact Nat.le_add_right _ _
    · cases h
  split at h
  · obtain ⟨x, _, rfl⟩ := Option.map_eq_some_iff.1 h; exact Nat.le_add_right _ _
  split at h
  · split at h
    · injection h with h; subst h; exact Nat.le_add_right _ _
    · cases h
  split at h
  · split at h
    · injection h with h; subst h; exact Nat.le_add_right _ _
    · cases h
  split at h
  · split at h
    · injection h with h; subst h
      show (a.f4 ++ commsV (P.length / 4) P).length ≤ _
      rw [List.length_append, commsV_len]; omega
    · cases h
  split at h
  · split at h
    · injection h with h; subst h; exact Nat.le_add_right _ _
    · cases h
  split at h
  · split at h
    · injection h with h; subst h; exact Nat.le_add_right _ _
    · cases h
  split at h
  · injection h with h; subst h; exact Nat.le_add_right _ _
  · cases h
theorem attrV_step (a a' : S41) (A : List Int) (at_ p : Nat) (h : attrV a A at_ = some (a', p)) : at_ < p ∧ p ≤ A.length ∧ a'.f4.length ≤ a.f4.length + (p - at_) := by
  unfold attrV at h
  split at h
  · obtain ⟨x, hx, he⟩ := Option.map_eq_some_iff.1 h
    injection he with e1 e2
    subst e1 e2
    have := payV_f4 _ _ _ _ hx
    rw [List.length_take, List.length_drop] at this
    omega
  · cases h

def attrsV (A : List Int) : Nat → S41 → Nat → Option S41
  | 0, a, at_ => if A.length ≤ at_ then some a else none
  | k + 1, a, at_ => if A.length ≤ at_ then some a else (attrV a A at_).bind (fun r => attrsV A k r.1 r.2)

def decV (B : List Int) : Option S47 :=
  if 21 ≤ B.length ∧ 21 + (beV ((B.drop 19).take 2)).toNat + 2 ≤ B.length ∧ 21 + (beV ((B.drop 19).take 2)).toNat + 2 + (beV ((B.drop (21 + (beV ((B.drop 19).take 2)).toNat)).take 2)).toNat ≤ B.length then
    (prefsV ((B.drop 21).take (beV ((B.drop 19).take 2)).toNat) (beV ((B.drop 19).take 2)).toNat 0).bind (fun l0 =>
    (attrsV ((B.drop (21 + (beV ((B.drop 19).take 2)).toNat + 2)).take (beV ((B.drop (21 + (beV ((B.drop 19).take 2)).toNat)).take 2)).toNat) (beV ((B.drop (21 + (beV ((B.drop 19).take 2)).toNat)).take 2)).toNat z41 0).bind (fun a =>
    (prefsV B B.length (21 + (beV ((B.drop 19).take 2)).toNat + 2 + (beV ((B.drop (21 + (beV ((B.drop 19).take 2)).toNat)).take 2)).toNat)).map (fun l1 => ⟨l0, l1, a⟩)))
  else none
theorem decV_no1 (B : List Int) (h : ¬ 19 + 2 ≤ B.length) : decV B = none := by
  unfold decV
  rw [if_neg (by omega)]
theorem decV_no2 (B : List Int) (n : Nat) (hn : (n : Int) = beV ((B.drop 19).take 2)) (h : ¬ 21 + n + 2 ≤ B.length ∨ prefsV ((B.drop 21).take n) n 0 = none) : decV B = none := by
  unfold decV
  rw [← hn, Int.toNat_natCast]
  rcases h with h | h
  · rw [if_neg (by omega)]
  · rw [h]; split <;> rfl
theorem decV_no3 (B : List Int) (n m : Nat) (hn : (n : Int) = beV ((B.drop 19).take 2)) (hm : (m : Int) = beV ((B.drop (21 + n)).take 2)) (h : ¬ 21 + n + 2 + m ≤ B.length ∨ attrsV ((B.drop (21 + n + 2)).take m) m z41 0 = none ∨ prefsV B B.length (21 + n + 2 + m) = none) : decV B = none := by
  unfold decV
  rw [← hn, Int.toNat_natCast, ← hm, Int.toNat_natCast]
  rcases h with h | h | h
  · rw [if_neg (by omega)]
  · rw [h]; split
    · cases prefsV ((B.drop 21).take n) n 0 <;> rfl
    · rfl
  · rw [h]; split
    · cases prefsV ((B.drop 21).take n) n 0 with
      | none => rfl
      | some x => cases attrsV ((B.drop (21 + n + 2)).take m) m z41 0 <;> rfl
    · rfl
theorem decV_yes (B : List Int) (n m : Nat) (hn : (n : Int) = beV ((B.drop 19).take 2)) (hm : (m : Int) = beV ((B.drop (21 + n)).take 2)) (h : 21 + n + 2 + m ≤ B.length) (xs ys : List S25) (a : S41) (h0 : prefsV ((B.drop 21).take n) n 0 = some xs) (h1 : attrsV ((B.drop (21 + n + 2)).take m) m z41 0 = some a) (h2 : prefsV B B.length (21 + n + 2 + m) = some ys) : decV B = some ⟨xs, ys, a⟩ := by
  unfold decV
  rw [← hn, Int.toNat_natCast, ← hm, Int.toNat_natCast, if_pos ⟨by omega, by omega, by omega⟩, h0, h1, h2]
  rfl
theorem prefsV_len (B : List Int) : ∀ (k at_ : Nat) (l : List S25), prefsV B k at_ = some l → l.length ≤ k := by
  intro k
  induction k with
  | zero =>
    intro at_ l h
    unfold prefsV at h
    split at h
    · injection h with h; subst h; simp
    · cases h
  | succ k ih =>
    intro at_ l h
    unfold prefsV at h
    split at h
    · injection h with h; subst h; simp
    split at h
    · obtain ⟨x, hx, rfl⟩ := Option.map_eq_some_iff.1 h
      have := ih _ _ hx
      rw [List.length_cons]; omega
    · cases h
theorem pathV_len (P : List Int) (l : List Int) (h : pathV P 0 = some l) : l.length ≤ P.length := by
  unfold pathV at h
  split at h
  · injection h with h; subst h; simp
  split at h
  · injection h with h; subst h
    rw [numsV_len]; omega
  · cases h
theorem payV_few (a a' : S41) (kind : Int) (P : List Int) (L : Nat) (hL : P.length ≤ L) (h : payV a kind P = some a') (h3 : a.f3.length ≤ L) (h6 : a.f6.length ≤ L) : a'.f3.length ≤ L ∧ a'.f6.length ≤ L := by
  unfold payV at h
  split at h
  · split at h
    · injection h with h; subst h; exact ⟨h3, h6⟩
    · cases h
  split at h
  · obtain ⟨x, hx, rfl⟩ := Option.map_eq_some_iff.1 h
    exact ⟨Nat.le_trans (pathV_len _ _ hx) hL, h6⟩
  split at h
  · split at h
    · injection h with h; subst h; exact ⟨h3, h6⟩
    · cases h
  split at h
  · split at h
    · injection h with h; subst h; exact ⟨h3, h6⟩
    · cases h
  split at h
  · split at h
    · injection h with h; subst h; exact ⟨h3, h6⟩
    · cases h
  split at h
  · split at h
    · injection h with h; subst h; exact ⟨h3, h6⟩
    · cases h
  split at h
  · split at h
    · injection h with h; subst h
      refine ⟨h3, ?_⟩
      show (numsV 4 (P.length / 4) P).length ≤ L
      rw [numsV_len]; omega
    · cases h
  split at h
  · injection h with h; subst h; exact ⟨h3, h6⟩
  · cases h
theorem attrsV_few (A : List Int) : ∀ (k : Nat) (a r : S41) (at_ : Nat), attrsV A k a at_ = some r → at_ ≤ A.length → a.f3.length ≤ A.length → a.f4.length ≤ at_ → a.f6.length ≤ A.length → r.f3.length ≤ A.length ∧ r.f4.length ≤ A.length ∧ r.f6.length ≤ A.length := by
  intro k
  induction k with
  | zero =>
    intro a r at_ h hat h3 h4 h6
    unfold attrsV at h
    split at h
    · injection h with h; subst h; exact ⟨h3, by omega, h6⟩
    · cases h
  | succ k ih =>
    intro a r at_ h hat h3 h4 h6
    unfold attrsV at h
    split at h
    · injection h with h; subst h; exact ⟨h3, by omega, h6⟩
    · obtain ⟨⟨a', p⟩, h1, h2⟩ := Option.bind_eq_some_iff.1 h
      obtain ⟨s1, s2, s3⟩ := attrV_step a a' A at_ p h1
      have hf : a'.f3.length ≤ A.length ∧ a'.f6.length ≤ A.length := by
        unfold attrV at h1
        split at h1
        · obtain ⟨x, hx, he⟩ := Option.map_eq_some_iff.1 h1
          injection he with e1 e2
          subst e1
          exact payV_few a x _ _ _ (by rw [List.length_take, List.length_drop]; omega) hx h3 h6
        · cases h1
      exact ih a' r p h2 s2 hf.1 (by omega) hf.2
end Go.Proofs.Ytjmpojfpbhihpaa

end
section
namespace Go.Proofs.Ytjmpojfpbhihpaa.P
open Go.RowKit Go.Proofs.YtjmpojfpbhihpaaW.PrintWords Go.Proofs.YtjmpojfpbhihpaaW.PrintLast Go.Proofs.YtjmpojfpbhihpaaW.PrintMore
set_option linter.unusedVariables false
set_option linter.unusedSimpArgs false

instance : DecidableEq S102 := fun a b => if h : a.f0 = b.f0 ∧ a.f1 = b.f1 then isTrue (by cases a; cases b; simp_all) else isFalse (by rintro rfl; exact h ⟨rfl, rfl⟩)
/-- an order told by numbers -/
def Ord {α : Type} (c : α → α → Int) : Prop := (∀ a b, c b a = - c a b) ∧ (∀ a b d, c a b ≤ 0 → c b d ≤ 0 → c a d ≤ 0)
theorem Ord.zero {α : Type} {c : α → α → Int} (h : Ord c) {a b d : α} (h1 : c a b ≤ 0) (h2 : c b d ≤ 0) (h3 : c a d = 0) : c a b = 0 ∧ c b d = 0 := by
  have e1 := h.1 a d
  have e2 := h.1 a b
  have e3 := h.1 b d
  have t1 := h.2 b d a h2 (by omega)
  have t2 := h.2 d a b (by omega) h1
  constructor <;> omega
theorem Ord.pull {α β : Type} {c : α → α → Int} (h : Ord c) (f : β → α) : Ord (fun a b => c (f a) (f b)) := ⟨fun a b => h.1 _ _, fun a b d => h.2 _ _ _⟩
theorem cmpI_ord : Ord cmpI := by
  refine ⟨fun a b => ?_, fun a b d => ?_⟩
  · unfold cmpI; split <;> split <;> omega
  · unfold cmpI; split <;> split <;> split <;> (try split) <;> (try split) <;> omega
theorem cmpI_zero {a b : Int} : cmpI a b = 0 ↔ a = b := by unfold cmpI; split <;> (try split) <;> omega
theorem cmpI_tri (a b : Int) : cmpI a b = -1 ∨ cmpI a b = 0 ∨ cmpI a b = 1 := by unfold cmpI; split <;> (try split) <;> omega
theorem orI_ord {α : Type} {c d : α → α → Int} (h : Ord c) (g : Ord d) : Ord (fun a b => orI (c a b) (d a b)) := by
  refine ⟨fun x y => ?_, fun x y z h1 h2 => ?_⟩
  · show orI _ _ = - orI _ _
    unfold orI
    rw [h.1 x y, g.1 x y]
    by_cases e : c x y = 0
    · rw [if_neg (by omega), if_neg (by omega)]
    · rw [if_pos (by omega), if_pos (by omega)]
  · have h1' : orI (c x y) (d x y) ≤ 0 := h1
    have h2' : orI (c y z) (d y z) ≤ 0 := h2
    show orI (c x z) (d x z) ≤ 0
    unfold orI at *
    have p1 : c x y ≤ 0 := by by_cases e : c x y = 0 <;> simp [e] at h1' ⊢ ; exact h1'
    have p2 : c y z ≤ 0 := by by_cases e : c y z = 0 <;> simp [e] at h2' ⊢ ; exact h2'
    have p3 := h.2 x y z p1 p2
    by_cases e : c x z = 0
    · obtain ⟨e1, e2⟩ := h.zero p1 p2 e
      rw [if_neg (by omega)] at h1' h2' ⊢
      exact g.2 x y z h1' h2'
    · rw [if_pos e]; exact p3
theorem orI_zero {a b : Int} : orI a b = 0 ↔ a = 0 ∧ b = 0 := by unfold orI; by_cases h : a = 0 <;> simp [h]
theorem cmpLst_zero {α : Type} {c : α → α → Int} (h : ∀ a b, c a b = 0 ↔ a = b) : ∀ a b : List α, cmpLst c a b = 0 ↔ a = b := by
  intro a
  induction a with
  | nil => intro b; cases b <;> simp [cmpLst]
  | cons x a ih =>
    intro b
    cases b with
    | nil => simp [cmpLst]
    | cons y b =>
      simp only [cmpLst]
      by_cases e : c x y = 0
      · rw [if_neg (by omega), ih b, (h x y).1 e]; simp
      · rw [if_pos e]; constructor
        · intro q; exact absurd q e
        · intro q; cases q; exact absurd ((h x x).2 rfl) e
theorem ordC_ord : Ord ordC := orI_ord (cmpI_ord.pull (fun x : S102 => x.f0)) (cmpI_ord.pull (fun x : S102 => x.f1))
theorem ordC_zero (a b : S102) : ordC a b = 0 ↔ a = b := by
  unfold ordC
  rw [orI_zero, cmpI_zero, cmpI_zero]
  cases a; cases b; simp
theorem cmpCL_zero (a b : List S102) : cmpCL a b = 0 ↔ a = b := by
  unfold cmpCL
  rw [orI_zero, cmpLst_zero ordC_zero]
  constructor
  · exact fun h => h.2
  · exact fun h => ⟨by rw [h]; exact cmpI_zero.2 rfl, h⟩
end Go.Proofs.Ytjmpojfpbhihpaa.P

end
section
namespace Go.Proofs.Ytjmpojfpbhihpaa.P
open Go.RowKit Go.Proofs.YtjmpojfpbhihpaaW.PrintWords Go.Proofs.YtjmpojfpbhihpaaW.PrintLast Go.Proofs.YtjmpojfpbhihpaaW.PrintMore
set_option linter.unusedVariables false
set_option linter.unusedSimpArgs false

theorem pat {α : Type} {l : List α} {i : Nat} (h : i < l.length) : ∃ x, x ∈ l ∧ l[i]? = some x ∧ l.drop i = x :: l.drop (i + 1) :=
  ⟨l[i], List.getElem_mem h, List.getElem?_eq_getElem h, List.drop_eq_getElem_cons h⟩
theorem rd_at {l : List Int} {i : Nat} {x : Int} (h : l[i]? = some x) : rd l (i : Int) = x := by
  unfold rd
  rw [Int.toNat_natCast, List.getD_eq_getElem?_getD, h]; rfl
theorem rdC_at {l : List S102} {i : Nat} {x : S102} (h : l[i]? = some x) : rd_T102 l (i : Int) = x := by
  unfold rd_T102
  rw [Int.toNat_natCast, List.getD_eq_getElem?_getD, h]; rfl

def mayCB (a b : Int) : Bool := decide (1 ≤ a) && (decide (a ≤ 65535) && (decide (0 ≤ b) && decide (b ≤ 65535)))
theorem commMay_is (a b : Int) : comm_May.f a b = some (mayCB a b) := by
  unfold comm_May.f mayCB
  by_cases h1 : a ≥ 1
  · rw [if_pos h1]
    by_cases h2 : a ≤ 65535
    · rw [if_pos h2]
      by_cases h3 : b ≥ 0
      · rw [if_pos h3]; simp [h1, h2, h3]
      · rw [if_neg h3]; simp [h3]
    · rw [if_neg h2]; simp [h2]
  · rw [if_neg h1]; simp [h1]
def stepsB (p : Option S102) : List S102 → Bool
  | [] => true
  | x :: l => mayCB x.f0 x.f1 && ((match p with | none => true | some q => decide (ordC q x < 0)) && stepsB (some x) l)
/-- the one ahead of the i-th -/
def prevC (l : List S102) (i : Nat) : Option S102 := if i = 0 then none else l[i - 1]?
theorem prevC_succ (l : List S102) (i : Nat) : prevC l (i + 1) = l[i]? := by unfold prevC; rw [if_neg (by omega)]; rfl
def setB (l : List S102) : Bool := decide (l.length ≤ 8) && stepsB none l
theorem commOrder_ev (x y : S102) : Evt (fun k => comm_order.f k x.f0 x.f1 y.f0 y.f1) (ordC x y) := Evt.of_mono (fun k => comm_order.mono _ _ _ _ k) (ordC_is x y)
theorem commSetL_ev : ∀ (d : Nat) (l : List S102) (i : Nat), l.length ≤ 1000000 → l.length - i = d → i ≤ l.length → Evt (fun k => comm_Set.l0 k l l (l.length : Int) (i : Int)) (stepsB (prevC l i) (l.drop i)) := by
  intro d
  induction d with
  | zero =>
    intro l i hl hd hi
    refine Evt.step ?_
    simp only [comm_Set.l0]
    refine Evt.ite_neg (by omega) (Evt.of fun k => ?_)
    rw [List.drop_eq_nil_of_le (by omega)]; rfl
  | succ d ih =>
    intro l i hl hd hi
    refine Evt.step ?_
    simp only [comm_Set.l0]
    obtain ⟨x, hx, he, hdr⟩ := pat (l := l) (i := i) (by omega)
    refine Evt.ite_pos (by omega) (Evt.ite_pos (by omega) (Evt.ite_pos (by omega) ?_))
    have hn := ih l (i + 1) hl (by omega) (by omega)
    rw [prevC_succ, he] at hn
    rw [rdC_at he, hdr]
    refine Evt.bindc (commMay_is _ _) ?_
    simp only [stepsB]
    by_cases hb : mayCB x.f0 x.f1 = true
    · refine Evt.ite_pos hb ?_
      rw [hb, Bool.true_and, wrap64_in ((i : Int) + 1) (by omega) (by omega)]
      by_cases h0 : i = 0
      · subst h0
        refine Evt.ite_neg (by simp) ?_
        exact hn
      · obtain ⟨q, hq, hqe, _⟩ := pat (l := l) (i := i - 1) (by omega)
        have hp : prevC l i = some q := by unfold prevC; rw [if_neg h0, hqe]
        rw [hp, wrap64_in ((i : Int) - 1) (by omega) (by omega), show ((i : Int) - 1) = ((i - 1 : Nat) : Int) by omega]
        refine Evt.ite_pos (by omega) (Evt.ite_pos (by omega) (Evt.ite_pos (by omega) ?_))
        rw [rdC_at hqe]
        refine Evt.bind (commOrder_ev q x) ?_
        by_cases hc : ordC q x < 0
        · refine Evt.ite_neg (by omega) ?_
          simp only [hc, decide_true, Bool.true_and]
          exact hn
        · refine Evt.ite_pos (by omega) (Evt.of fun k => ?_)
          simp [hc]
    · refine Evt.ite_neg hb (Evt.of fun k => ?_)
      rw [Bool.eq_false_iff.mpr hb]; rfl
theorem commSet_ev (l : List S102) (hl : l.length ≤ 1000000) : Evt (fun k => comm_Set.f k l) (setB l) := by
  unfold comm_Set.f setB
  by_cases h : l.length ≤ 8
  · rw [decide_eq_true h, Bool.true_and]
    exact Evt.ite_neg (by omega) (commSetL_ev l.length l 0 hl (by omega) (by omega))
  · rw [decide_eq_false h]
    exact Evt.ite_pos (by omega) (Evt.pure _)
theorem take_at {α : Type} {l : List α} {i : Nat} {x : α} (h : l[i]? = some x) : l.take (i + 1) = l.take i ++ [x] := by rw [List.take_add_one, h]; rfl
end Go.Proofs.Ytjmpojfpbhihpaa.P

end
section
namespace Go.Proofs.Ytjmpojfpbhihpaa.P
open Go.RowKit Go.Proofs.YtjmpojfpbhihpaaW.PrintWords Go.Proofs.YtjmpojfpbhihpaaW.PrintLast Go.Proofs.YtjmpojfpbhihpaaW.PrintMore
set_option linter.unusedVariables false
set_option linter.unusedSimpArgs false

theorem before_is (a b c d : Int) : whirligigref03_Before.f a b c d = some (decide (orI (cmpI a c) (cmpI b d) < 0)) := by
  unfold whirligigref03_Before.f
  by_cases h : a < c
  · rw [if_pos h, show cmpI a c = -1 from by simp [cmpI, h]]; rfl
  · rw [if_neg h]
    by_cases h2 : a = c
    · rw [if_pos h2, cmpI_zero.2 h2]
      unfold orI cmpI
      by_cases h3 : b < d
      · simp [h3]
      · simp [h3]; split <;> omega
    · rw [if_neg h2, show cmpI a c = 1 from by unfold cmpI; rw [if_neg h, if_pos (by omega)]]; rfl
theorem ref03Cmp_ev : ∀ (d : Nat) (a b : List S102) (i : Nat), a.length ≤ 100000 → a.length = b.length → a.length - i = d → i ≤ a.length → Evt (fun k => whirligigref03_Compare.l0 k a b (i : Int)) (cmpLst ordC (a.drop i) (b.drop i)) := by
  intro d
  induction d with
  | zero =>
    intro a b i hl he hd hi
    refine Evt.step ?_
    simp only [whirligigref03_Compare.l0]
    refine Evt.ite_neg (by omega) (Evt.of fun k => ?_)
    rw [show a.drop i = [] from List.drop_eq_nil_of_le (by omega), show b.drop i = [] from List.drop_eq_nil_of_le (by omega)]; rfl
  | succ d ih =>
    intro a b i hl hab hd hi
    refine Evt.step ?_
    simp only [whirligigref03_Compare.l0]
    obtain ⟨x, hx, he, hdr⟩ := pat (l := a) (i := i) (by omega)
    obtain ⟨y, _, hy, hdy⟩ := pat (l := b) (i := i) (by omega)
    refine Evt.ite_pos (by omega) (Evt.ite_pos (by omega) (Evt.ite_pos (by omega) ?_))
    rw [hdr, hdy, rdC_at he, rdC_at hy]
    simp only [cmpLst]
    refine Evt.bindc (before_is _ _ _ _) ?_
    have ea : orI (cmpI x.f0 y.f0) (cmpI x.f1 y.f1) = ordC x y := rfl
    have eb : orI (cmpI y.f0 x.f0) (cmpI y.f1 x.f1) = ordC y x := rfl
    rw [ea]
    have tri : ordC x y = -1 ∨ ordC x y = 0 ∨ ordC x y = 1 := by
      unfold ordC orI
      by_cases h : cmpI x.f0 y.f0 ≠ 0
      · rw [if_pos h]; exact cmpI_tri _ _
      · rw [if_neg h]; exact cmpI_tri _ _
    by_cases h1 : ordC x y < 0
    · rw [if_pos (by omega), show ordC x y = -1 from by omega]
      exact Evt.ite_pos (by simp) (Evt.of fun k => rfl)
    · refine Evt.ite_neg (by simpa using h1) ?_
      refine Evt.bindc (before_is _ _ _ _) ?_
      rw [eb, ordC_ord.1 x y]
      by_cases h2 : 0 < ordC x y
      · rw [if_pos (by omega), show ordC x y = 1 from by omega]
        exact Evt.ite_pos (by simp) (Evt.of fun k => rfl)
      · rw [if_neg (by omega), show ordC x y = 0 from by omega]
        refine Evt.ite_neg (by simp) ?_
        rw [wrap64_in _ (by omega) (by omega)]
        exact ih a b (i + 1) hl hab (by omega) (by omega)
theorem refComm_ev (a b : List S102) (ha : a.length ≤ 100000) : Evt (fun k => whirligigref03_Compare.f k a b) (cmpCL a b) := by
  unfold whirligigref03_Compare.f cmpCL orI
  by_cases h : (a.length : Int) < (b.length : Int)
  · rw [show cmpI (a.length : Int) (b.length : Int) = -1 from by simp [cmpI]; omega]
    exact Evt.ite_pos h (Evt.of fun k => rfl)
  · refine Evt.ite_neg h ?_
    by_cases h2 : (a.length : Int) > (b.length : Int)
    · rw [show cmpI (a.length : Int) (b.length : Int) = 1 from by unfold cmpI; rw [if_neg h, if_pos h2]]
      exact Evt.ite_pos h2 (Evt.of fun k => rfl)
    · rw [show cmpI (a.length : Int) (b.length : Int) = 0 from by unfold cmpI; rw [if_neg h, if_neg h2]]
      exact Evt.ite_neg h2 (ref03Cmp_ev a.length a b 0 ha (by omega) (by omega) (by omega))
theorem refCommMay_is (a b : Int) : whirligigref03_May.f a b = some (mayCB a b) := by
  unfold whirligigref03_May.f mayCB
  by_cases h1 : a > 0
  · rw [if_pos h1]
    by_cases h2 : a < 65536
    · rw [if_pos h2]
      by_cases h3 : b ≥ 0
      · rw [if_pos h3, decide_eq_true (show 1 ≤ a by omega), decide_eq_true (show a ≤ 65535 by omega), decide_eq_true (show 0 ≤ b by omega), Bool.true_and, Bool.true_and, Bool.true_and]; exact congrArg some (decide_eq_decide.2 (by omega))
      · rw [if_neg h3, decide_eq_false (show ¬ 0 ≤ b by omega)]; simp
    · rw [if_neg h2, decide_eq_false (show ¬ a ≤ 65535 by omega)]; simp
  · rw [if_neg h1, decide_eq_false (show ¬ 1 ≤ a by omega)]; simp
theorem refSetL_ev : ∀ (d : Nat) (l : List S102) (i : Nat), l.length ≤ 100000 → l.length - i = d → i ≤ l.length → i ≤ 8 → Evt (fun k => whirligigref03_Set.l0 k l (i : Int)) (decide (l.length ≤ 8) && stepsB (prevC l i) (l.drop i)) := by
  intro d
  induction d with
  | zero =>
    intro l i hl hd hi h8
    refine Evt.step ?_
    simp only [whirligigref03_Set.l0]
    refine Evt.ite_neg (by omega) (Evt.of fun k => ?_)
    rw [List.drop_eq_nil_of_le (by omega), decide_eq_true (by omega)]; rfl
  | succ d ih =>
    intro l i hl hd hi h8
    refine Evt.step ?_
    simp only [whirligigref03_Set.l0]
    obtain ⟨x, hx, he, hdr⟩ := pat (l := l) (i := i) (by omega)
    refine Evt.ite_pos (by omega) ?_
    by_cases h : i = 8
    · refine Evt.ite_pos (by omega) (Evt.of fun k => ?_)
      rw [decide_eq_false (by omega)]; rfl
    refine Evt.ite_neg (by omega) (Evt.ite_pos (by omega) ?_)
    have hn := ih l (i + 1) hl (by omega) (by omega) (by omega)
    rw [prevC_succ, he] at hn
    rw [rdC_at he, hdr]
    refine Evt.bindc (refCommMay_is _ _) ?_
    simp only [stepsB]
    by_cases hb : mayCB x.f0 x.f1 = true
    · refine Evt.ite_pos hb ?_
      rw [hb, Bool.true_and, wrap64_in ((i : Int) + 1) (by omega) (by omega)]
      by_cases h0 : i = 0
      · subst h0
        refine Evt.ite_neg (by simp) ?_
        exact hn
      · obtain ⟨q, hq, hqe, _⟩ := pat (l := l) (i := i - 1) (by omega)
        have hp : prevC l i = some q := by unfold prevC; rw [if_neg h0, hqe]
        rw [hp, wrap64_in ((i : Int) - 1) (by omega) (by omega), show ((i : Int) - 1) = ((i - 1 : Nat) : Int) by omega]
        refine Evt.ite_pos (by omega) (Evt.ite_pos (by omega) (Evt.ite_pos (by omega) ?_))
        rw [rdC_at hqe]
        refine Evt.bindc (before_is _ _ _ _) ?_
        have ea : orI (cmpI q.f0 x.f0) (cmpI q.f1 x.f1) = ordC q x := rfl
        rw [ea]
        by_cases hc : ordC q x < 0
        · refine Evt.ite_pos (by simpa using hc) ?_
          simp only [hc, decide_true, Bool.true_and]
          exact hn
        · refine Evt.ite_neg (by simpa using hc) (Evt.of fun k => ?_)
          simp [hc]
    · refine Evt.ite_neg hb (Evt.of fun k => ?_)
      rw [Bool.eq_false_iff.mpr hb]; simp
theorem refSet_ev (l : List S102) (hl : l.length ≤ 100000) : Evt (fun k => whirligigref03_Set.f k l) (setB l) := refSetL_ev l.length l 0 hl (by omega) (by omega) (by omega)


/-- lists of numbers: the longer one is the greater one -/
def cmpIL (a b : List Int) : Int := orI (cmpI a.length b.length) (cmpLst cmpI a b)
theorem cmpIL_zero (a b : List Int) : cmpIL a b = 0 ↔ a = b := by
  unfold cmpIL
  rw [orI_zero, cmpLst_zero (fun a b => cmpI_zero)]
  constructor
  · exact fun h => h.2
  · exact fun h => ⟨by rw [h]; exact cmpI_zero.2 rfl, h⟩

/-- the first of a list that isn't nought -/
def firstNz : List Int → Int
  | [] => 0
  | x :: l => orI x (firstNz l)
theorem cmpOr_ev : ∀ (d : Nat) (l : List Int) (i : Nat), l.length ≤ 100000 → l.length - i = d → i ≤ l.length → Evt (fun k => cmp_Or_int.l0 k 0 l (l.length : Int) (i : Int)) (firstNz (l.drop i)) := by
  intro d
  induction d with
  | zero =>
    intro l i hl hd hi
    refine Evt.step ?_
    simp only [cmp_Or_int.l0]
    refine Evt.ite_neg (by omega) (Evt.of fun k => ?_)
    rw [List.drop_eq_nil_of_le (by omega)]; rfl
  | succ d ih =>
    intro l i hl hd hi
    refine Evt.step ?_
    simp only [cmp_Or_int.l0]
    obtain ⟨x, hx, he, hdr⟩ := pat (l := l) (i := i) (by omega)
    refine Evt.ite_pos (by omega) (Evt.ite_pos (by omega) (Evt.ite_pos (by omega) ?_))
    rw [rd_at he, hdr]
    show Evt _ (orI x (firstNz (l.drop (i + 1))))
    unfold orI
    by_cases hb : x = 0
    · rw [if_neg (by omega)]
      refine Evt.ite_pos hb ?_
      rw [wrap64_in _ (by omega) (by omega)]
      exact ih l (i + 1) hl (by omega) (by omega)
    · rw [if_pos hb]
      exact Evt.ite_neg hb (Evt.pure _)
theorem cmpOrF_ev (l : List Int) (hl : l.length ≤ 100000) : Evt (fun k => cmp_Or_int.f k l) (firstNz l) := cmpOr_ev l.length l 0 hl (by omega) (by omega)
theorem slcCmp_ev : ∀ (d : Nat) (a b : List Int) (i : Nat), a.length ≤ 100000 → a.length - i = d → i ≤ a.length → i ≤ b.length → Evt (fun k => slices_Compare_int_int.l0 k a b a (a.length : Int) (i : Int)) (cmpLst cmpI (a.drop i) (b.drop i)) := by
  intro d
  induction d with
  | zero =>
    intro a b i hl hd hi hb
    refine Evt.step ?_
    simp only [slices_Compare_int_int.l0]
    refine Evt.ite_neg (by omega) (Evt.of fun k => ?_)
    rw [show a.drop i = [] from List.drop_eq_nil_of_le (by omega)]
    by_cases h : i < b.length
    · obtain ⟨y, _, _, hdr⟩ := pat (l := b) (i := i) h
      rw [hdr, if_pos (by omega)]; rfl
    · rw [show b.drop i = [] from List.drop_eq_nil_of_le (by omega), if_neg (by omega)]; rfl
  | succ d ih =>
    intro a b i hl hd hi hb
    refine Evt.step ?_
    simp only [slices_Compare_int_int.l0]
    obtain ⟨x, hx, he, hdr⟩ := pat (l := a) (i := i) (by omega)
    refine Evt.ite_pos (by omega) (Evt.ite_pos (by omega) (Evt.ite_pos (by omega) ?_))
    rw [hdr]
    by_cases h : i < b.length
    · obtain ⟨y, _, hy, hdy⟩ := pat (l := b) (i := i) h
      refine Evt.ite_neg (by omega) (Evt.ite_pos (by omega) ?_)
      rw [rd_at he, rd_at hy, hdy, cmpI_is]
      simp only [Option.bind_some, cmpLst]
      by_cases hz : cmpI x y = 0
      · rw [if_neg (by omega)]
        refine Evt.ite_pos hz ?_
        rw [wrap64_in _ (by omega) (by omega)]
        exact ih a b (i + 1) hl (by omega) (by omega) (by omega)
      · rw [if_pos hz]
        exact Evt.ite_neg hz (Evt.pure _)
    · rw [show b.drop i = [] from List.drop_eq_nil_of_le (by omega)]
      exact Evt.ite_pos (by omega) (Evt.of fun k => rfl)
theorem orI_or (a b : Int) : firstNz [a, b] = orI a b := by
  show orI a (orI b 0) = orI a b
  unfold orI; by_cases h : b = 0 <;> simp [h]
theorem asCmp_ev (a b : List Int) (ha : a.length ≤ 100000) : Evt (fun k => aspath_Compare.f k a b) (cmpIL a b) := by
  unfold aspath_Compare.f
  rw [cmpI_is]
  refine Evt.bindc rfl ?_
  refine Evt.bind (slcCmp_ev a.length a b 0 ha (by omega) (by omega) (by omega)) ?_
  refine Evt.bind (cmpOrF_ev _ (by simp)) ?_
  rw [orI_or]
  exact Evt.pure _
theorem ref04Cmp_ev : ∀ (d : Nat) (a b : List Int) (i : Nat), a.length ≤ 100000 → a.length = b.length → a.length - i = d → i ≤ a.length → Evt (fun k => whirligigref04_Compare.l0 k a b (i : Int)) (cmpLst cmpI (a.drop i) (b.drop i)) := by
  intro d
  induction d with
  | zero =>
    intro a b i hl he hd hi
    refine Evt.step ?_
    simp only [whirligigref04_Compare.l0]
    refine Evt.ite_neg (by omega) (Evt.of fun k => ?_)
    rw [show a.drop i = [] from List.drop_eq_nil_of_le (by omega), show b.drop i = [] from List.drop_eq_nil_of_le (by omega)]; rfl
  | succ d ih =>
    intro a b i hl hab hd hi
    refine Evt.step ?_
    simp only [whirligigref04_Compare.l0]
    obtain ⟨x, hx, he, hdr⟩ := pat (l := a) (i := i) (by omega)
    obtain ⟨y, _, hy, hdy⟩ := pat (l := b) (i := i) (by omega)
    refine Evt.ite_pos (by omega) (Evt.ite_pos (by omega) (Evt.ite_pos (by omega) ?_))
    rw [hdr, hdy, rd_at he, rd_at hy]
    simp only [cmpLst]
    by_cases h1 : x < y
    · rw [show cmpI x y = -1 from by simp [cmpI, h1]]
      exact Evt.ite_pos h1 (Evt.of fun k => rfl)
    · refine Evt.ite_neg h1 ?_
      by_cases h2 : x > y
      · rw [show cmpI x y = 1 from by unfold cmpI; rw [if_neg h1, if_pos h2]]
        exact Evt.ite_pos h2 (Evt.of fun k => rfl)
      · rw [show cmpI x y = 0 from by unfold cmpI; rw [if_neg h1, if_neg h2]]
        refine Evt.ite_neg h2 ?_
        rw [wrap64_in _ (by omega) (by omega)]
        exact ih a b (i + 1) hl hab (by omega) (by omega)
theorem refAs_ev (a b : List Int) (ha : a.length ≤ 100000) : Evt (fun k => whirligigref04_Compare.f k a b) (cmpIL a b) := by
  unfold whirligigref04_Compare.f cmpIL orI
  by_cases h : (a.length : Int) = (b.length : Int)
  · rw [cmpI_zero.2 h]
    exact Evt.ite_pos h (ref04Cmp_ev a.length a b 0 ha (by omega) (by omega) (by omega))
  · refine Evt.ite_neg h ?_
    by_cases h2 : (a.length : Int) < (b.length : Int)
    · rw [show cmpI (a.length : Int) (b.length : Int) = -1 from by simp [cmpI]; omega]
      exact Evt.ite_pos h2 (Evt.of fun k => rfl)
    · rw [show cmpI (a.length : Int) (b.length : Int) = 1 from by unfold cmpI; rw [if_neg h2, if_pos (by omega)]]
      exact Evt.ite_neg h2 (Evt.of fun k => rfl)


def inB (n a b : Int) : Bool := decide (a ≤ n) && decide (n ≤ b)
theorem within_is (n a b : Int) : attr_within.f n a b = some (inB n a b) := by
  unfold attr_within.f inB
  by_cases h : n ≥ a
  · rw [if_pos h]; simp [h]
  · rw [if_neg h]; simp [h]
theorem asB_in (n : Int) : inB n 1 65535 = asB n := rfl
def pathB (l : List Int) : Bool := decide (l.length ≤ 16) && l.all asB
theorem asMay_is (l : List Int) : aspath_May.f l = some (pathB l) := by
  unfold aspath_May.f pathB
  rw [List.all_eq_not_any_not]
theorem refAS_is (n : Int) : whirligigref04_AS.f n = some (asB n) := by
  unfold whirligigref04_AS.f asB
  by_cases h : n > 0
  · rw [if_pos h, decide_eq_true (show 1 ≤ n by omega), Bool.true_and]; exact congrArg some (decide_eq_decide.2 (by omega))
  · rw [if_neg h, decide_eq_false (show ¬ 1 ≤ n by omega), Bool.false_and]
theorem refPathL_ev : ∀ (d : Nat) (l : List Int) (i : Nat), l.length ≤ 100000 → l.length - i = d → i ≤ l.length → i ≤ 16 → Evt (fun k => whirligigref04_May.l0 k l (i : Int)) (decide (l.length ≤ 16) && (l.drop i).all asB) := by
  intro d
  induction d with
  | zero =>
    intro l i hl hd hi h16
    refine Evt.step ?_
    simp only [whirligigref04_May.l0]
    refine Evt.ite_neg (by omega) (Evt.of fun k => ?_)
    rw [List.drop_eq_nil_of_le (by omega)]; simp; omega
  | succ d ih =>
    intro l i hl hd hi h16
    refine Evt.step ?_
    simp only [whirligigref04_May.l0]
    obtain ⟨x, hx, he, hdr⟩ := pat (l := l) (i := i) (by omega)
    refine Evt.ite_pos (by omega) ?_
    by_cases h : i = 16
    · refine Evt.ite_pos (by omega) (Evt.of fun k => ?_)
      rw [decide_eq_false (by omega)]; rfl
    · refine Evt.ite_neg (by omega) (Evt.ite_pos (by omega) ?_)
      rw [rd_at he, hdr]
      refine Evt.bindc (refAS_is _) ?_
      rw [List.all_cons]
      by_cases hb : asB x = true
      · refine Evt.ite_pos hb ?_
        rw [wrap64_in _ (by omega) (by omega), hb, Bool.true_and]
        exact ih l (i + 1) hl (by omega) (by omega) (by omega)
      · refine Evt.ite_neg hb (Evt.of fun k => ?_)
        rw [Bool.eq_false_iff.mpr hb]; simp
theorem refPath_ev (l : List Int) (hl : l.length ≤ 100000) : Evt (fun k => whirligigref04_May.f k l) (pathB l) := refPathL_ev l.length l 0 hl (by omega) (by omega) (by omega)
theorem index_ev : ∀ (d : Nat) (l : List Int) (x : Int) (i : Nat), l.length ≤ 100000 → l.length - i = d → i ≤ l.length → ∃ r : Int, Evt (fun k => slices_Index_int_int.l0 k l x (l.length : Int) (i : Int)) r ∧ decide (r ≥ 0) = (l.drop i).contains x := by
  intro d
  induction d with
  | zero =>
    intro l x i hl hd hi
    refine ⟨-1, Evt.step ?_, ?_⟩
    · simp only [slices_Index_int_int.l0]
      exact Evt.ite_neg (by omega) (Evt.of fun k => rfl)
    · rw [List.drop_eq_nil_of_le (by omega)]; rfl
  | succ d ih =>
    intro l x i hl hd hi
    obtain ⟨y, hy, he, hdr⟩ := pat (l := l) (i := i) (by omega)
    by_cases h : x = y
    · refine ⟨(i : Int), Evt.step ?_, ?_⟩
      · simp only [slices_Index_int_int.l0]
        refine Evt.ite_pos (by omega) (Evt.ite_pos (by omega) (Evt.ite_pos (by omega) ?_))
        rw [rd_at he]
        exact Evt.ite_pos h (Evt.of fun k => rfl)
      · rw [hdr, decide_eq_true (by omega)]; simp [h]
    · obtain ⟨r, h1, h2⟩ := ih l x (i + 1) hl (by omega) (by omega)
      refine ⟨r, Evt.step ?_, ?_⟩
      · simp only [slices_Index_int_int.l0]
        refine Evt.ite_pos (by omega) (Evt.ite_pos (by omega) (Evt.ite_pos (by omega) ?_))
        rw [rd_at he]
        refine Evt.ite_neg h ?_
        rw [wrap64_in _ (by omega) (by omega)]
        exact h1
      · rw [h2, hdr, List.contains_cons]; simp [h]
theorem contains_ev (l : List Int) (x : Int) (hl : l.length ≤ 100000) : Evt (fun k => slices_Contains_int_int.f k l x) (l.contains x) := by
  obtain ⟨r, h1, h2⟩ := index_ev l.length l x 0 hl (by omega) (by omega)
  unfold slices_Contains_int_int.f
  refine Evt.bind h1 (Evt.of fun k => ?_)
  rw [h2]; rfl
def clB (seen : List Int) : List Int → Bool
  | [] => true
  | x :: l => asB x && (!(seen.contains x) && clB (seen ++ [x]) l)
def clustB (l : List Int) : Bool := decide (l.length ≤ 8) && clB [] l
theorem clustL_ev : ∀ (d : Nat) (l : List Int) (i : Nat), l.length ≤ 100000 → l.length - i = d → i ≤ l.length → i ≤ 8 → Evt (fun k => attr_clusters.l0 k l l (l.length : Int) (i : Int)) (decide (l.length ≤ 8) && clB (l.take i) (l.drop i)) := by
  intro d
  induction d with
  | zero =>
    intro l i hl hd hi h8
    refine Evt.step ?_
    simp only [attr_clusters.l0]
    refine Evt.ite_neg (by omega) (Evt.of fun k => ?_)
    rw [List.drop_eq_nil_of_le (by omega), decide_eq_true (by omega)]; rfl
  | succ d ih =>
    intro l i hl hd hi h8
    refine Evt.step ?_
    simp only [attr_clusters.l0]
    obtain ⟨x, hx, he, hdr⟩ := pat (l := l) (i := i) (by omega)
    refine Evt.ite_pos (by omega) (Evt.ite_pos (by omega) (Evt.ite_pos (by omega) ?_))
    by_cases h : i = 8
    · refine Evt.ite_pos (by omega) (Evt.of fun k => ?_)
      rw [decide_eq_false (by omega)]; rfl
    refine Evt.ite_neg (by omega) ?_
    have hn := ih l (i + 1) hl (by omega) (by omega) (by omega)
    rw [take_at he] at hn
    rw [rd_at he, hdr]
    refine Evt.bindc (within_is _ _ _) ?_
    rw [asB_in]
    simp only [clB]
    by_cases hb : asB x = true
    · refine Evt.ite_pos hb (Evt.ite_pos (by omega) ?_)
      rw [Int.toNat_natCast]
      refine Evt.bind (contains_ev _ _ (by rw [List.length_take]; omega)) ?_
      rw [hb, Bool.true_and]
      by_cases hc : (l.take i).contains x = true
      · refine Evt.ite_pos hc (Evt.of fun k => ?_)
        rw [hc]; simp
      · refine Evt.ite_neg hc ?_
        rw [Bool.eq_false_iff.mpr hc, wrap64_in _ (by omega) (by omega)]
        exact hn
    · refine Evt.ite_neg hb (Evt.of fun k => ?_)
      rw [Bool.eq_false_iff.mpr hb]; simp
theorem clust_ev (l : List Int) (hl : l.length ≤ 100000) : Evt (fun k => attr_clusters.f k l) (clustB l) := clustL_ev l.length l 0 hl (by omega) (by omega) (by omega)
theorem refClIn_ev : ∀ (d : Nat) (l : List Int) (i j : Nat) (x : Int) (R : Bool), l.length ≤ 100000 → l[i]? = some x → i - j = d → j ≤ i → Evt (fun k => whirligigref09_clusters.l0 k l ((i : Int) + 1)) R →
    Evt (fun k => whirligigref09_clusters.l1 k l (i : Int) (j : Int)) (!(((l.take i).drop j).contains x) && R) := by
  intro d
  induction d with
  | zero =>
    intro l i j x R hl he hd hj hR
    have hi : i < l.length := (List.getElem?_eq_some_iff.1 he).1
    refine Evt.step ?_
    simp only [whirligigref09_clusters.l1]
    refine Evt.ite_neg (by omega) ?_
    rw [wrap64_in _ (by omega) (by omega), List.drop_eq_nil_of_le (by rw [List.length_take]; omega)]
    exact hR
  | succ d ih =>
    intro l i j x R hl he hd hj hR
    have hi : i < l.length := (List.getElem?_eq_some_iff.1 he).1
    refine Evt.step ?_
    simp only [whirligigref09_clusters.l1]
    obtain ⟨y, hy, hye, hdy⟩ := pat (l := l.take i) (i := j) (by rw [List.length_take]; omega)
    have hy2 : l[j]? = some y := by rw [List.getElem?_take_of_lt (by omega)] at hye; exact hye
    refine Evt.ite_pos (by omega) (Evt.ite_pos (by omega) (Evt.ite_pos (by omega) (Evt.ite_pos (by omega) (Evt.ite_pos (by omega) ?_))))
    rw [rd_at he, rd_at hy2, hdy, List.contains_cons]
    by_cases h : y = x
    · refine Evt.ite_pos h (Evt.of fun k => ?_)
      simp [h]
    · refine Evt.ite_neg h ?_
      rw [wrap64_in _ (by omega) (by omega)]
      have hx : (x == y) = false := by simp; exact fun e => h e.symm
      rw [hx, Bool.false_or]
      exact ih l i (j + 1) x R hl he (by omega) (by omega) hR
theorem refClL_ev : ∀ (d : Nat) (l : List Int) (i : Nat), l.length ≤ 100000 → l.length - i = d → i ≤ l.length → i ≤ 8 → Evt (fun k => whirligigref09_clusters.l0 k l (i : Int)) (decide (l.length ≤ 8) && clB (l.take i) (l.drop i)) := by
  intro d
  induction d with
  | zero =>
    intro l i hl hd hi h8
    refine Evt.step ?_
    simp only [whirligigref09_clusters.l0]
    refine Evt.ite_neg (by omega) (Evt.of fun k => ?_)
    rw [List.drop_eq_nil_of_le (by omega), decide_eq_true (by omega)]; rfl
  | succ d ih =>
    intro l i hl hd hi h8
    refine Evt.step ?_
    simp only [whirligigref09_clusters.l0]
    obtain ⟨x, hx, he, hdr⟩ := pat (l := l) (i := i) (by omega)
    refine Evt.ite_pos (by omega) ?_
    by_cases h : i = 8
    · refine Evt.ite_pos (by omega) (Evt.step ?_)
      simp only [whirligigref09_clusters.j1]
      refine Evt.ite_pos trivial (Evt.of fun k => ?_)
      rw [decide_eq_false (by omega)]; rfl
    refine Evt.ite_neg (by omega) (Evt.ite_pos (by omega) ?_)
    have hn := ih l (i + 1) hl (by omega) (by omega) (by omega)
    rw [take_at he] at hn
    rw [rd_at he, hdr]
    refine Evt.bindc (refAS_is _) (Evt.step ?_)
    simp only [whirligigref09_clusters.j1, clB]
    by_cases hb : asB x = true
    · rw [hb]
      refine Evt.ite_neg (by simp) ?_
      have hin := refClIn_ev i l i 0 x _ hl he (by omega) (by omega) hn
      rw [List.drop_zero] at hin
      rw [Bool.true_and, Bool.and_left_comm]
      exact hin
    · rw [Bool.eq_false_iff.mpr hb]
      refine Evt.ite_pos (by simp) (Evt.of fun k => ?_)
      simp
theorem refCl_ev (l : List Int) (hl : l.length ≤ 100000) : Evt (fun k => whirligigref09_clusters.f k l) (clustB l) := refClL_ev l.length l 0 hl (by omega) (by omega) (by omega)

def mayNB (p m o f : Int) : Bool := inB p 0 1048576 && (inB m 0 1048576 && (inB o 0 2 && inB f 0 65535))
def mayAB (p m o : Int) (l : List Int) (c : List S102) (f : Int) (s : List Int) : Bool := mayNB p m o f && (pathB l && (setB c && clustB s))
theorem attrMay_ev (p m o : Int) (l : List Int) (c : List S102) (f : Int) (s : List Int) (hc : c.length ≤ 100000) (hs : s.length ≤ 100000) : Evt (fun k => attr_May.f k p m o l c f s) (mayAB p m o l c f s) := by
  unfold attr_May.f mayAB mayNB
  refine Evt.bindc (within_is _ _ _) ?_
  by_cases h1 : inB p 0 1048576 = true
  · rw [h1]
    refine Evt.ite_pos rfl (Evt.bindc (within_is _ _ _) ?_)
    by_cases h2 : inB m 0 1048576 = true
    · rw [h2]
      refine Evt.ite_pos rfl (Evt.bindc (within_is _ _ _) ?_)
      by_cases h3 : inB o 0 2 = true
      · rw [h3]
        refine Evt.ite_pos rfl (Evt.bindc (within_is _ _ _) ?_)
        by_cases h4 : inB f 0 65535 = true
        · rw [h4]
          refine Evt.ite_pos rfl (Evt.bindc (asMay_is _) ?_)
          by_cases h5 : pathB l = true
          · rw [h5]
            refine Evt.ite_pos rfl (Evt.bind (commSet_ev c (by omega)) ?_)
            by_cases h6 : setB c = true
            · rw [h6]
              refine Evt.ite_pos rfl (Evt.bind (clust_ev s hs) (Evt.of fun k => ?_))
              simp
            · rw [Bool.eq_false_iff.mpr h6]; exact Evt.ite_neg (by simp) (Evt.of fun k => by simp)
          · rw [Bool.eq_false_iff.mpr h5]; exact Evt.ite_neg (by simp) (Evt.of fun k => by simp)
        · rw [Bool.eq_false_iff.mpr h4]; exact Evt.ite_neg (by simp) (Evt.of fun k => by simp)
      · rw [Bool.eq_false_iff.mpr h3]; exact Evt.ite_neg (by simp) (Evt.of fun k => by simp)
    · rw [Bool.eq_false_iff.mpr h2]; exact Evt.ite_neg (by simp) (Evt.of fun k => by simp)
  · rw [Bool.eq_false_iff.mpr h1]; exact Evt.ite_neg (by simp) (Evt.of fun k => by simp)
theorem refMayJ_ev (b : Bool) (p m o : Int) (l : List Int) (c : List S102) (f : Int) (s : List Int) (hl : l.length ≤ 100000) (hc : c.length ≤ 100000) (hs : s.length ≤ 100000) : Evt (fun k => whirligigref09_May.j0 k b p m o l c f s) (!b && (pathB l && (setB c && clustB s))) := by
  refine Evt.step ?_
  simp only [whirligigref09_May.j0]
  cases b with
  | true => exact Evt.ite_pos rfl (Evt.of fun k => by simp)
  | false =>
    refine Evt.ite_neg (by simp) (Evt.bind (refPath_ev l hl) ?_)
    by_cases h5 : pathB l = true
    · rw [h5]
      refine Evt.ite_pos rfl (Evt.bind (refSet_ev c (by omega)) ?_)
      by_cases h6 : setB c = true
      · rw [h6]
        refine Evt.ite_pos rfl (Evt.bind (refCl_ev s hs) (Evt.of fun k => ?_))
        simp
      · rw [Bool.eq_false_iff.mpr h6]; exact Evt.ite_neg (by simp) (Evt.of fun k => by simp)
    · rw [Bool.eq_false_iff.mpr h5]; exact Evt.ite_neg (by simp) (Evt.of fun k => by simp)
theorem refMay9_ev (p m o : Int) (l : List Int) (c : List S102) (f : Int) (s : List Int) (hl : l.length ≤ 100000) (hc : c.length ≤ 100000) (hs : s.length ≤ 100000) : Evt (fun k => whirligigref09_May.f k p m o l c f s) (mayAB p m o l c f s) := by
  unfold whirligigref09_May.f mayAB
  have T := refMayJ_ev true p m o l c f s hl hc hs
  have no : mayNB p m o f = false → Evt (fun k => whirligigref09_May.j0 k true p m o l c f s) (mayNB p m o f && (pathB l && (setB c && clustB s))) := fun e => by rw [e]; exact T
  by_cases h1 : p < 0
  · exact Evt.ite_pos h1 (no (by simp [mayNB, inB]; omega))
  refine Evt.ite_neg h1 ?_
  by_cases h2 : p > 1048576
  · exact Evt.ite_pos h2 (no (by simp [mayNB, inB]; omega))
  refine Evt.ite_neg h2 ?_
  by_cases h3 : m < 0
  · exact Evt.ite_pos h3 (no (by simp [mayNB, inB]; omega))
  refine Evt.ite_neg h3 ?_
  by_cases h4 : m > 1048576
  · exact Evt.ite_pos h4 (no (by simp [mayNB, inB]; omega))
  refine Evt.ite_neg h4 ?_
  by_cases h5 : o < 0
  · exact Evt.ite_pos h5 (no (by simp [mayNB, inB]; omega))
  refine Evt.ite_neg h5 ?_
  by_cases h6 : o > 2
  · exact Evt.ite_pos h6 (no (by simp [mayNB, inB]; omega))
  refine Evt.ite_neg h6 ?_
  by_cases h7 : f < 0
  · exact Evt.ite_pos h7 (no (by simp [mayNB, inB]; omega))
  refine Evt.ite_neg h7 ?_
  have J := refMayJ_ev (decide (f > 65535)) p m o l c f s hl hc hs
  have e : (!decide (f > 65535)) = mayNB p m o f := by
    unfold mayNB inB
    rw [decide_eq_true (show (0 : Int) ≤ p by omega), decide_eq_true (show p ≤ 1048576 by omega), decide_eq_true (show (0 : Int) ≤ m by omega), decide_eq_true (show m ≤ 1048576 by omega), decide_eq_true (show (0 : Int) ≤ o by omega), decide_eq_true (show o ≤ 2 by omega), decide_eq_true (show (0 : Int) ≤ f by omega)]
    by_cases h : f > 65535
    · simp [h]
    · simp [h]; omega
  rw [e] at J
  exact J


def attC (x y : S41) : Int := orI (cmpI x.f0 y.f0) (orI (cmpI x.f1 y.f1) (orI (cmpI x.f2 y.f2) (orI (cmpIL x.f3 y.f3) (orI (cmpCL x.f4 y.f4) (orI (cmpI x.f5 y.f5) (orI (cmpIL x.f6 y.f6) 0))))))
theorem attC_zero (x y : S41) : attC x y = 0 ↔ x = y := by
  unfold attC
  simp only [orI_zero, cmpI_zero, cmpIL_zero, cmpCL_zero, and_true]
  cases x; cases y; simp
theorem sign_is (a b : Int) : whirligigref09_sign.f a b = some (cmpI a b) := by
  unfold whirligigref09_sign.f cmpI
  by_cases h : a < b
  · rw [if_pos h, if_pos h]
  · rw [if_neg h, if_neg h]
    by_cases h2 : a > b
    · rw [if_pos h2, if_pos h2]
    · rw [if_neg h2, if_neg h2]
theorem attrCmp_ev (x y : S41) (h1 : x.f3.length ≤ 100000) (h2 : x.f6.length ≤ 100000) : Evt (fun k => attr_Compare.f k x.f0 x.f1 x.f2 x.f3 x.f4 x.f5 x.f6 y.f0 y.f1 y.f2 y.f3 y.f4 y.f5 y.f6) (attC x y) := by
  unfold attr_Compare.f
  refine Evt.bindc (cmpI_is _ _) (Evt.bindc (cmpI_is _ _) (Evt.bindc (cmpI_is _ _) (Evt.bind (asCmp_ev _ _ h1) (Evt.bindc rfl (Evt.bindc (cmpI_is _ _) (Evt.bind (asCmp_ev _ _ h2) (Evt.bind (cmpOrF_ev _ (by simp)) (Evt.pure _))))))))
theorem refFirst_ev : ∀ (d : Nat) (l : List Int) (i : Nat), l.length ≤ 100000 → l.length - i = d → i ≤ l.length → Evt (fun k => whirligigref09_Compare.l0 k l (i : Int)) (firstNz (l.drop i)) := by
  intro d
  induction d with
  | zero =>
    intro l i hl hd hi
    refine Evt.step ?_
    simp only [whirligigref09_Compare.l0]
    refine Evt.ite_neg (by omega) (Evt.of fun k => ?_)
    rw [List.drop_eq_nil_of_le (by omega)]; rfl
  | succ d ih =>
    intro l i hl hd hi
    refine Evt.step ?_
    simp only [whirligigref09_Compare.l0]
    obtain ⟨x, hx, he, hdr⟩ := pat (l := l) (i := i) (by omega)
    refine Evt.ite_pos (by omega) (Evt.ite_pos (by omega) ?_)
    rw [rd_at he, hdr]
    show Evt _ (orI x (firstNz (l.drop (i + 1))))
    unfold orI
    by_cases hb : x = 0
    · rw [if_neg (by omega)]
      refine Evt.ite_pos hb ?_
      rw [wrap64_in _ (by omega) (by omega)]
      exact ih l (i + 1) hl (by omega) (by omega)
    · rw [if_pos hb]
      exact Evt.ite_neg hb (Evt.pure _)
theorem refCmp_ev (x y : S41) (h1 : x.f3.length ≤ 100000) (h2 : x.f6.length ≤ 100000) (h3 : x.f4.length ≤ 100000) : Evt (fun k => whirligigref09_Compare.f k x.f0 x.f1 x.f2 x.f3 x.f4 x.f5 x.f6 y.f0 y.f1 y.f2 y.f3 y.f4 y.f5 y.f6) (attC x y) := by
  unfold whirligigref09_Compare.f
  refine Evt.bindc (sign_is _ _) (Evt.bindc (sign_is _ _) (Evt.bindc (sign_is _ _) (Evt.bind (refAs_ev _ _ h1) (Evt.bind (refComm_ev _ _ h3) (Evt.bindc (sign_is _ _) (Evt.bind (refAs_ev _ _ h2) ?_))))))
  exact refFirst_ev 7 _ 0 (by simp) (by simp) (by simp)
end Go.Proofs.Ytjmpojfpbhihpaa.P

end
section
namespace Go.Proofs.Ytjmpojfpbhihpaa.P
open Go.RowKit Go.Proofs.YtjmpojfpbhihpaaW.PrintWords Go.Proofs.YtjmpojfpbhihpaaW.PrintLast Go.Proofs.YtjmpojfpbhihpaaW.PrintMore
set_option linter.unusedVariables false
set_option linter.unusedSimpArgs false

theorem U8.app {A B : List Int} (h : U8 A) (k : U8 B) : U8 (A ++ B) := fun x hx => by
  rcases List.mem_append.1 hx with hx | hx
  · exact h x hx
  · exact k x hx
theorem U8.nl : U8 [] := fun x hx => by cases hx
theorem u8m (x : Int) : 0 ≤ x % 256 ∧ x % 256 ≤ 255 := by omega
/-- a number's bytes, so many -/
def beB : Nat → Int → List Int
  | 0, _ => []
  | k + 1, n => (n / 256 ^ k % 256) :: beB k n
theorem beB_len (k : Nat) (n : Int) : (beB k n).length = k := by induction k with | zero => rfl | succ k ih => rw [beB, List.length_cons, ih]
theorem beB_u8 (k : Nat) (n : Int) : U8 (beB k n) := by
  induction k with
  | zero => exact U8.nl
  | succ k ih =>
    intro x hx
    rcases List.mem_cons.1 hx with rfl | hx
    · exact u8m _
    · exact ih x hx
theorem shr_is (n : Int) (j : Nat) (h : j < 4) : shr .i64 n (wrap64 (8 * (j : Int))) = n / 256 ^ j := by
  rw [wrap64_in _ (by omega) (by omega)]
  match j, h with
  | 0, _ => rfl
  | 1, _ => rfl
  | 2, _ => rfl
  | 3, _ => rfl
theorem numL_ev (n : Int) : ∀ (j : Nat) (B : List Int), j ≤ 4 → B.length + j ≤ 1000000 → Evt (fun k => wire_number.l0 k B n ((j : Int) - 1)) (B ++ beB j n) := by
  intro j
  induction j with
  | zero =>
    intro B hj hB
    refine Evt.step ?_
    simp only [wire_number.l0]
    exact Evt.ite_neg (by omega) (Evt.of fun k => by simp [beB])
  | succ j ih =>
    intro B hj hB
    refine Evt.step ?_
    simp only [wire_number.l0]
    rw [show (((j + 1 : Nat) : Int) - 1) = (j : Int) by omega, shr_is n j (by omega), wrap64_in ((j : Int) - 1) (by omega) (by omega)]
    refine Evt.ite_pos (by omega) (Evt.ite_pos (by rw [wrap64_in _ (by omega) (by omega)]; omega) (Evt.ite_pos (by omega) ?_))
    have h := ih (B ++ [n / 256 ^ j % 256]) (by omega) (by rw [List.length_append]; simp; omega)
    rw [List.append_assoc] at h
    exact h
theorem num2_ev (B : List Int) (n : Int) (hB : B.length ≤ 900000) : Evt (fun k => wire_number.f k B n 2) (B ++ beB 2 n) := by
  unfold wire_number.f
  rw [wrap64_in _ (by omega) (by omega)]
  exact numL_ev n 2 B (by omega) (by omega)
theorem num4_ev (B : List Int) (n : Int) (hB : B.length ≤ 900000) : Evt (fun k => wire_number.f k B n 4) (B ++ beB 4 n) := by
  unfold wire_number.f
  rw [wrap64_in _ (by omega) (by omega)]
  exact numL_ev n 4 B (by omega) (by omega)
/-- an attribute's bytes -/
def oneB (fl kind : Int) (P : List Int) : List Int := [fl, kind, (P.length : Int) % 256] ++ P
theorem oneB_len (fl kind : Int) (P : List Int) : (oneB fl kind P).length = P.length + 3 := by simp [oneB]
theorem oneB_u8 {fl kind : Int} {P : List Int} (h : U8 P) (h1 : 0 ≤ fl ∧ fl ≤ 255) (h2 : 0 ≤ kind ∧ kind ≤ 255) : U8 (oneB fl kind P) := by
  refine U8.app (fun x hx => ?_) h
  simp only [List.mem_cons, List.not_mem_nil, or_false] at hx
  rcases hx with rfl | rfl | rfl
  · exact h1
  · exact h2
  · exact u8m _
theorem oneX_is (l0 : List Int) (a b : Int) (l3 : List Int) (h0 : l0.length ≤ 90000) (h3 : l3.length ≤ 90000) : wire_one.f l0 a b l3 = some (l0 ++ oneB a b l3) := by
  unfold wire_one.f oneB
  simp only [Option.bind_some]
  rw [if_pos (by simp; omega), if_pos (by simp; omega)]
  simp
def bs2 (l : List Int) : List Int := l.flatMap (beB 2)
def bs4 (l : List Int) : List Int := l.flatMap (beB 4)
def bsC (l : List S102) : List Int := l.flatMap (fun x => beB 2 x.f0 ++ beB 2 x.f1)
theorem fm_len {α : Type} (f : α → List Int) (n : Nat) (hf : ∀ x, (f x).length = n) (l : List α) : (l.flatMap f).length = n * l.length := by
  induction l with
  | nil => rfl
  | cons x l ih => rw [List.flatMap_cons, List.length_append, hf, ih, List.length_cons, Nat.mul_succ]; omega
theorem bs2_len (l : List Int) : (bs2 l).length = 2 * l.length := fm_len _ 2 (beB_len 2) l
theorem bs4_len (l : List Int) : (bs4 l).length = 4 * l.length := fm_len _ 4 (beB_len 4) l
theorem bsC_len (l : List S102) : (bsC l).length = 4 * l.length := fm_len _ 4 (fun x => by rw [List.length_append, beB_len, beB_len]) l
theorem fm_u8 {α : Type} (f : α → List Int) (hf : ∀ x, U8 (f x)) (l : List α) : U8 (l.flatMap f) := fun y hy => by
  obtain ⟨x, _, hx⟩ := List.mem_flatMap.1 hy
  exact hf x y hx
theorem bs2_u8 (l : List Int) : U8 (bs2 l) := fm_u8 _ (beB_u8 2) l
theorem bs4_u8 (l : List Int) : U8 (bs4 l) := fm_u8 _ (beB_u8 4) l
theorem bsC_u8 (l : List S102) : U8 (bsC l) := fm_u8 _ (fun x => U8.app (beB_u8 2 _) (beB_u8 2 _)) l
def opt (c : Bool) (l : List Int) : List Int := if c = true then l else []
theorem opt_len (c : Bool) (l : List Int) : (opt c l).length ≤ l.length := by unfold opt; split <;> simp
theorem opt_u8 {c : Bool} {l : List Int} (h : U8 l) : U8 (opt c l) := by unfold opt; split; exact h; exact U8.nl
def fin5 (f : Int) (x3 x8 : List Int) : List Int := x3 ++ opt (decide (f > 0)) (oneB 128 9 (beB 4 f)) ++ opt (decide (0 < x8.length)) (oneB 128 10 x8)
def fin2 (f : Int) (x3 x7 x8 : List Int) : List Int := fin5 f (x3 ++ opt (decide (0 < x7.length)) (oneB 192 8 x7)) x8
def pathBy (path : List Int) : List Int := (if 0 < path.length then [2, (path.length : Int) % 256] else []) ++ bs2 path
theorem pathBy_len (l : List Int) : (pathBy l).length ≤ 2 * l.length + 2 := by unfold pathBy; rw [List.length_append, bs2_len]; split <;> simp <;> omega
theorem pathBy_u8 (l : List Int) : U8 (pathBy l) := by
  unfold pathBy
  refine U8.app ?_ (bs2_u8 l)
  split
  · intro x hx
    simp only [List.mem_cons, List.not_mem_nil, or_false] at hx
    rcases hx with rfl | rfl
    · omega
    · exact u8m _
  · exact U8.nl
/-- attributes' bytes -/
def atB (p m o : Int) (path : List Int) (cs : List S102) (f : Int) (cl : List Int) : List Int :=
  fin2 f (oneB 64 1 [o % 256] ++ oneB 64 2 (pathBy path) ++ opt (decide (m > 0)) (oneB 128 4 (beB 4 m)) ++ oneB 64 5 (beB 4 p)) (bsC cs) (bs4 cl)
section
variable (p m o : Int) (path : List Int) (cs : List S102) (f : Int) (cl : List Int)
theorem xt_j5 (x3 x8 : List Int) (h3 : x3.length ≤ 10000) (h8 : x8.length ≤ 10000) : Evt (fun k => wire_attributes.j5 k x3 x8 p m o path cs f cl) (fin5 f x3 x8) := by
  have tail : ∀ y : List Int, y.length ≤ 20000 → Evt (fun k => if (x8.length : Int) > 0 then ((wire_one.f y 128 10 x8).bind fun t285 => (some t285)) else (some y)) (y ++ opt (decide (0 < x8.length)) (oneB 128 10 x8)) := by
    intro y hy
    by_cases h : 0 < x8.length
    · rw [decide_eq_true h]
      exact Evt.ite_pos (by omega) (Evt.bindc (oneX_is y 128 10 x8 (by omega) (by omega)) (Evt.pure _))
    · rw [decide_eq_false h]
      exact Evt.ite_neg (by omega) (Evt.of fun k => by simp [opt])
  refine Evt.step ?_
  simp only [wire_attributes.j5]
  unfold fin5
  by_cases hf : f > 0
  · rw [decide_eq_true hf]
    have ho := oneX_is x3 128 9 ([] ++ beB 4 f) (by omega) (by simp [beB_len])
    exact Evt.ite_pos hf (Evt.bind (num4_ev [] f (by simp)) (Evt.bindc ho (tail _ (by rw [List.length_append, oneB_len]; simp [beB_len]; omega))))
  · rw [decide_eq_false hf]
    have := tail x3 (by omega)
    exact Evt.ite_neg hf (by simpa [opt] using this)
theorem xt_l2 (hcl : cl.length ≤ 100) (x3 x7 : List Int) (h3 : x3.length ≤ 5000) (h7 : x7.length ≤ 2000) : ∀ (d i : Nat) (x8 : List Int), cl.length - i = d → i ≤ cl.length → x8.length ≤ 4 * i →
    Evt (fun k => wire_attributes.l2 k x3 x7 x8 cl (cl.length : Int) (i : Int) p m o path cs f cl) (fin2 f x3 x7 (x8 ++ bs4 (cl.drop i))) := by
  intro d
  induction d with
  | zero =>
    intro i x8 hd hi h8
    rw [List.drop_eq_nil_of_le (by omega), show bs4 [] = [] from rfl, List.append_nil]
    refine Evt.step ?_
    simp only [wire_attributes.l2]
    unfold fin2
    by_cases h : 0 < x7.length
    · rw [decide_eq_true h]
      exact Evt.ite_neg (by omega) (Evt.ite_pos (by omega) (Evt.bindc (oneX_is x3 192 8 x7 (by omega) (by omega)) (xt_j5 p m o path cs f cl _ x8 (by rw [List.length_append, oneB_len]; omega) (by omega))))
    · rw [decide_eq_false h]
      refine Evt.ite_neg (by omega) (Evt.ite_neg (by omega) ?_)
      simpa [opt] using xt_j5 p m o path cs f cl x3 x8 (by omega) (by omega)
  | succ d ih =>
    intro i x8 hd hi h8
    obtain ⟨x, _, hx, hdr⟩ := pat (l := cl) (i := i) (by omega)
    have r1 := ih (i + 1) (x8 ++ beB 4 x) (by omega) (by omega) (by rw [List.length_append, beB_len]; omega)
    rw [List.append_assoc] at r1
    rw [hdr, show bs4 (x :: cl.drop (i + 1)) = beB 4 x ++ bs4 (cl.drop (i + 1)) from rfl]
    refine Evt.step ?_
    simp only [wire_attributes.l2]
    rw [rd_at hx]
    refine Evt.ite_pos (by omega) (Evt.ite_pos (by omega) (Evt.ite_pos (by omega) (Evt.bind (num4_ev x8 x (by omega)) ?_)))
    rw [wrap64_in _ (by omega) (by omega)]
    exact r1
theorem xt_l1 (hcs : cs.length ≤ 100) (hcl : cl.length ≤ 100) (x3 : List Int) (h3 : x3.length ≤ 5000) : ∀ (d i : Nat) (x7 : List Int), cs.length - i = d → i ≤ cs.length → x7.length ≤ 4 * i →
    Evt (fun k => wire_attributes.l1 k x3 x7 cs (cs.length : Int) (i : Int) p m o path cs f cl) (fin2 f x3 (x7 ++ bsC (cs.drop i)) (bs4 cl)) := by
  intro d
  induction d with
  | zero =>
    intro i x7 hd hi h7
    rw [List.drop_eq_nil_of_le (by omega), show bsC [] = [] from rfl, List.append_nil]
    refine Evt.step ?_
    simp only [wire_attributes.l1]
    have := xt_l2 p m o path cs f cl hcl x3 x7 h3 (by omega) cl.length 0 [] (by omega) (by omega) (by simp)
    exact Evt.ite_neg (by omega) this
  | succ d ih =>
    intro i x7 hd hi h7
    obtain ⟨x, _, hx, hdr⟩ := pat (l := cs) (i := i) (by omega)
    have r1 := ih (i + 1) (x7 ++ beB 2 x.f0 ++ beB 2 x.f1) (by omega) (by omega) (by rw [List.length_append, List.length_append, beB_len, beB_len]; omega)
    rw [hdr, show bsC (x :: cs.drop (i + 1)) = beB 2 x.f0 ++ beB 2 x.f1 ++ bsC (cs.drop (i + 1)) from rfl]
    refine Evt.step ?_
    simp only [wire_attributes.l1]
    rw [rdC_at hx]
    refine Evt.ite_pos (by omega) (Evt.ite_pos (by omega) (Evt.ite_pos (by omega) (Evt.bind (num2_ev x7 x.f0 (by omega)) (Evt.bind (num2_ev _ x.f1 (by rw [List.length_append, beB_len]; omega)) ?_))))
    rw [wrap64_in _ (by omega) (by omega)]
    have e : x7 ++ (beB 2 x.f0 ++ beB 2 x.f1 ++ bsC (cs.drop (i + 1))) = x7 ++ beB 2 x.f0 ++ beB 2 x.f1 ++ bsC (cs.drop (i + 1)) := by simp
    rw [e]
    exact r1
theorem xt_j2 (hcs : cs.length ≤ 100) (hcl : cl.length ≤ 100) (x3 : List Int) (h3 : x3.length ≤ 4000) : Evt (fun k => wire_attributes.j2 k x3 p m o path cs f cl) (fin2 f (x3 ++ oneB 64 5 (beB 4 p)) (bsC cs) (bs4 cl)) := by
  refine Evt.step ?_
  simp only [wire_attributes.j2]
  refine Evt.bind (num4_ev [] p (by simp)) (Evt.bindc (oneX_is x3 64 5 _ (by omega) (by simp [beB_len])) ?_)
  have := xt_l1 p m o path cs f cl hcs hcl (x3 ++ oneB 64 5 (beB 4 p)) (by rw [List.length_append, oneB_len, beB_len]; omega) cs.length 0 [] (by omega) (by omega) (by simp)
  exact this
theorem xt_l0 (hp : path.length ≤ 100) (hcs : cs.length ≤ 100) (hcl : cl.length ≤ 100) (x3 : List Int) (h3 : x3.length ≤ 1000) : ∀ (d i : Nat) (x4 : List Int), path.length - i = d → i ≤ path.length → x4.length ≤ 2 + 2 * i →
    Evt (fun k => wire_attributes.l0 k x3 x4 path (path.length : Int) (i : Int) p m o path cs f cl) (fin2 f (x3 ++ oneB 64 2 (x4 ++ bs2 (path.drop i)) ++ opt (decide (m > 0)) (oneB 128 4 (beB 4 m)) ++ oneB 64 5 (beB 4 p)) (bsC cs) (bs4 cl)) := by
  intro d
  induction d with
  | zero =>
    intro i x4 hd hi h4
    rw [List.drop_eq_nil_of_le (by omega), show bs2 [] = [] from rfl, List.append_nil]
    have ho := oneX_is x3 64 2 x4 (by omega) (by omega)
    refine Evt.step ?_
    simp only [wire_attributes.l0]
    by_cases hm : m > 0
    · rw [decide_eq_true hm]
      have ho2 := oneX_is (x3 ++ oneB 64 2 x4) 128 4 ([] ++ beB 4 m) (by rw [List.length_append, oneB_len]; omega) (by simp [beB_len])
      exact Evt.ite_neg (by omega) (Evt.bindc ho (Evt.ite_pos hm (Evt.bind (num4_ev [] m (by simp)) (Evt.bindc ho2 (xt_j2 p m o path cs f cl hcs hcl _ (by rw [List.length_append, List.length_append, oneB_len, oneB_len]; simp [beB_len]; omega))))))
    · rw [decide_eq_false hm]
      refine Evt.ite_neg (by omega) (Evt.bindc ho (Evt.ite_neg hm ?_))
      simpa [opt] using xt_j2 p m o path cs f cl hcs hcl (x3 ++ oneB 64 2 x4) (by rw [List.length_append, oneB_len]; omega)
  | succ d ih =>
    intro i x4 hd hi h4
    obtain ⟨x, _, hx, hdr⟩ := pat (l := path) (i := i) (by omega)
    have r1 := ih (i + 1) (x4 ++ beB 2 x) (by omega) (by omega) (by rw [List.length_append, beB_len]; omega)
    rw [List.append_assoc x4] at r1
    rw [hdr, show bs2 (x :: path.drop (i + 1)) = beB 2 x ++ bs2 (path.drop (i + 1)) from rfl]
    refine Evt.step ?_
    simp only [wire_attributes.l0]
    rw [rd_at hx]
    refine Evt.ite_pos (by omega) (Evt.ite_pos (by omega) (Evt.ite_pos (by omega) (Evt.bind (num2_ev x4 x (by omega)) ?_)))
    rw [wrap64_in _ (by omega) (by omega)]
    exact r1
theorem xt_ev (hp : path.length ≤ 100) (hcs : cs.length ≤ 100) (hcl : cl.length ≤ 100) : Evt (fun k => wire_attributes.f k p m o path cs f cl) (atB p m o path cs f cl) := by
  have ho := oneX_is [] 64 1 [o % 256] (by simp) (by simp)
  rw [List.nil_append] at ho
  unfold wire_attributes.f atB pathBy
  refine Evt.bindc ho ?_
  by_cases h : 0 < path.length
  · rw [if_pos h]
    refine Evt.ite_pos (by omega) (Evt.step ?_)
    simp only [wire_attributes.j0]
    exact xt_l0 p m o path cs f cl hp hcs hcl _ (by rw [oneB_len]; simp) path.length 0 [2, (path.length : Int) % 256] (by omega) (by omega) (by simp)
  · rw [if_neg h]
    refine Evt.ite_neg (by omega) (Evt.step ?_)
    simp only [wire_attributes.j0]
    exact xt_l0 p m o path cs f cl hp hcs hcl _ (by rw [oneB_len]; simp) path.length 0 [] (by omega) (by omega) (by simp)
theorem atB_len : (atB p m o path cs f cl).length ≤ 2 * path.length + 4 * cs.length + 4 * cl.length + 45 := by
  unfold atB fin2 fin5
  have h1 := opt_len (decide (m > 0)) (oneB 128 4 (beB 4 m))
  have h2 := opt_len (decide (0 < (bsC cs).length)) (oneB 192 8 (bsC cs))
  have h3 := opt_len (decide (f > 0)) (oneB 128 9 (beB 4 f))
  have h4 := opt_len (decide (0 < (bs4 cl).length)) (oneB 128 10 (bs4 cl))
  have h5 := pathBy_len path
  rw [oneB_len] at h1 h2 h3 h4
  rw [beB_len] at h1 h3
  have e2 := bsC_len cs
  have e4 := bs4_len cl
  rw [List.length_append, List.length_append, List.length_append, List.length_append, List.length_append, List.length_append, oneB_len, oneB_len, oneB_len, beB_len, List.length_cons, List.length_nil]
  omega
theorem atB_u8 : U8 (atB p m o path cs f cl) := by
  unfold atB fin2 fin5
  refine U8.app (U8.app (U8.app (U8.app (U8.app (U8.app (oneB_u8 ?_ (by omega) (by omega)) (oneB_u8 (pathBy_u8 _) (by omega) (by omega))) (opt_u8 (oneB_u8 (beB_u8 _ _) (by omega) (by omega)))) (oneB_u8 (beB_u8 _ _) (by omega) (by omega))) (opt_u8 (oneB_u8 (bsC_u8 _) (by omega) (by omega)))) (opt_u8 (oneB_u8 (beB_u8 _ _) (by omega) (by omega)))) (opt_u8 (oneB_u8 (bs4_u8 _) (by omega) (by omega)))
  intro x hx
  rw [List.mem_singleton.1 hx]; exact u8m _
end
end Go.Proofs.Ytjmpojfpbhihpaa.P

end
section
namespace Go.Proofs.Ytjmpojfpbhihpaa.P
open Go.RowKit Go.Proofs.YtjmpojfpbhihpaaW.PrintWords Go.Proofs.YtjmpojfpbhihpaaW.PrintLast Go.Proofs.YtjmpojfpbhihpaaW.PrintMore
set_option linter.unusedVariables false
set_option linter.unusedSimpArgs false

def befB (q x : S25) : Bool := decide (q.f0 < x.f0 ∨ q.f0 = x.f0 ∧ q.f1 < x.f1)
def risB : Option S25 → List S25 → Bool
  | _, [] => true
  | p, x :: l => mayB x.f0 x.f1 && ((match p with | none => true | some q => befB q x) && risB (some x) l)
/-- the one ahead of the i-th -/
def prevP (l : List S25) (i : Nat) : Option S25 := if i = 0 then none else l[i - 1]?
theorem prevP_succ (l : List S25) (i : Nat) : prevP l (i + 1) = l[i]? := by unfold prevP; rw [if_neg (by omega)]; rfl
/-- which prefixes may be a list of an update -/
def risesB (l : List S25) : Bool := decide (l.length ≤ 32) && risB none l
theorem risB_all : ∀ (l : List S25) (p : Option S25), risB p l = true → ∀ x ∈ l, mayB x.f0 x.f1 = true := by
  intro l
  induction l with
  | nil => intro p h x hx; cases hx
  | cons y l ih =>
    intro p h x hx
    simp only [risB, Bool.and_eq_true] at h
    rcases List.mem_cons.1 hx with rfl | hx
    · exact h.1
    · exact ih _ h.2.2 x hx
theorem risesB_all {l : List S25} (h : risesB l = true) : l.length ≤ 32 ∧ ∀ x ∈ l, mayB x.f0 x.f1 = true := by
  unfold risesB at h
  simp only [Bool.and_eq_true, decide_eq_true_eq] at h
  exact ⟨h.1, risB_all l _ h.2⟩
theorem rdP_at {l : List S25} {i : Nat} {x : S25} (h : l[i]? = some x) : rd_T25 l (i : Int) = x := by
  unfold rd_T25
  rw [Int.toNat_natCast, List.getD_eq_getElem?_getD, h]; rfl
theorem wBefore_is (a b c d : Int) (ha : isA a) (hc : isA c) : addr_Before.f a b c d = some (mayB a b && (mayB c d && decide (a < c ∨ a = c ∧ b < d))) := by
  unfold addr_Before.f addr_before.f
  rw [may_is a b ha, Option.bind_some]
  by_cases h : mayB a b = true
  · rw [if_pos h, h, may_is c d hc, Option.bind_some]
    by_cases g : mayB c d = true
    · rw [if_pos g, g]
      by_cases e : a < c
      · rw [if_pos e]; simp [e]
      · rw [if_neg e]
        by_cases e2 : a = c
        · rw [if_pos e2]; simp [e, e2]
        · rw [if_neg e2]; simp [e, e2]
    · rw [if_neg g]; simp at g; rw [g]; rfl
  · rw [if_neg h]; simp at h; rw [h]; rfl
theorem risesL_ev (l : List S25) (hl : l.length ≤ 100000) (hok : ∀ x ∈ l, isA x.f0) : ∀ (d i : Nat), l.length - i = d → i ≤ l.length → (∀ q, prevP l i = some q → mayB q.f0 q.f1 = true) →
    Evt (fun k => wire_rises.l0 k l l (l.length : Int) (i : Int)) (risB (prevP l i) (l.drop i)) := by
  intro d
  induction d with
  | zero =>
    intro i hd hi hp
    rw [List.drop_eq_nil_of_le (by omega)]
    refine Evt.step ?_
    simp only [wire_rises.l0]
    exact Evt.ite_neg (by omega) (Evt.of fun k => by cases prevP l i <;> rfl)
  | succ d ih =>
    intro i hd hi hp
    obtain ⟨x, hxm, hx, hdr⟩ := pat (l := l) (i := i) (by omega)
    have hxa := hok x hxm
    have hn := ih (i + 1) (by omega) (by omega)
    rw [prevP_succ, hx] at hn
    rw [hdr]
    simp only [risB]
    refine Evt.step ?_
    simp only [wire_rises.l0]
    refine Evt.ite_pos (by omega) (Evt.ite_pos (by omega) (Evt.ite_pos (by omega) ?_))
    rw [rdP_at hx]
    refine Evt.bindc (may_is _ _ hxa) ?_
    by_cases hm : mayB x.f0 x.f1 = true
    · have hn := hn (fun q hq => by injection hq with hq; subst hq; exact hm)
      refine Evt.ite_pos hm ?_
      rw [hm, Bool.true_and, wrap64_in ((i : Int) + 1) (by omega) (by omega)]
      by_cases h0 : i = 0
      · subst h0
        refine Evt.ite_neg (by omega) ?_
        simpa [prevP] using hn
      · obtain ⟨q, hqm, hq, _⟩ := pat (l := l) (i := i - 1) (by omega)
        have hpq : prevP l i = some q := by unfold prevP; rw [if_neg h0, hq]
        have hqa := hok q hqm
        rw [hpq, wrap64_in ((i : Int) - 1) (by omega) (by omega), show ((i : Int) - 1) = ((i - 1 : Nat) : Int) by omega]
        refine Evt.ite_pos (by omega) (Evt.ite_pos (by omega) (Evt.ite_pos (by omega) ?_))
        rw [rdP_at hq]
        refine Evt.bindc (wBefore_is _ _ _ _ hqa hxa) ?_
        rw [hp q hpq, hm, Bool.true_and, Bool.true_and]
        show Evt _ (befB q x && risB (some x) (l.drop (i + 1)))
        by_cases hb : befB q x = true
        · rw [hb, Bool.true_and]
          exact Evt.ite_pos hb (by simpa using hn)
        · refine Evt.ite_neg hb (Evt.of fun k => ?_)
          rw [Bool.eq_false_iff.mpr hb]; rfl
    · refine Evt.ite_neg hm (Evt.of fun k => ?_)
      rw [Bool.eq_false_iff.mpr hm]; rfl
theorem risesX_ev (l : List S25) (hl : l.length ≤ 100000) (hok : ∀ x ∈ l, isA x.f0) : Evt (fun k => wire_rises.f k l) (risesB l) := by
  unfold wire_rises.f risesB
  by_cases h : l.length ≤ 32
  · rw [decide_eq_true h, Bool.true_and]
    exact Evt.ite_neg (by omega) (risesL_ev l hl hok l.length 0 (by omega) (by omega) (fun q hq => by simp [prevP] at hq))
  · rw [decide_eq_false h]
    exact Evt.ite_pos (by omega) (Evt.of fun k => rfl)
/-- prefixes' bytes -/
def preB (l : List S25) : List Int := l.flatMap (fun x => pfx x.f0 x.f1)
theorem pfxL (a b : Int) : (pfx a b).length ≤ 5 := by
  unfold pfx
  rw [List.length_cons, List.length_take]
  have : (be4 a).length = 4 := rfl
  omega
theorem pfxU (a b : Int) (h : mayB a b = true) : U8 (pfx a b) := by
  obtain ⟨b0, b1, _⟩ := (mayB_iff a b).1 h
  intro x hx
  unfold pfx at hx
  rcases List.mem_cons.1 hx with rfl | hx
  · omega
  · have := List.mem_of_mem_take hx
    simp only [be4, List.mem_cons, List.not_mem_nil, or_false] at this
    rcases this with rfl | rfl | rfl | rfl <;> exact u8m _
theorem preB_len (l : List S25) : (preB l).length ≤ 5 * l.length := by
  induction l with
  | nil => simp [preB]
  | cons x l ih =>
    have := pfxL x.f0 x.f1
    unfold preB at ih ⊢
    rw [List.flatMap_cons, List.length_append, List.length_cons]; omega
theorem preB_u8 (l : List S25) (h : ∀ x ∈ l, mayB x.f0 x.f1 = true) : U8 (preB l) := fun y hy => by
  obtain ⟨x, hm, hx⟩ := List.mem_flatMap.1 hy
  exact pfxU _ _ (h x hm) y hx
theorem preL_ev (l : List S25) (hl : l.length ≤ 100) (hok : ∀ x ∈ l, isA x.f0) (hm : ∀ x ∈ l, mayB x.f0 x.f1 = true) : ∀ (d i : Nat) (x3 : List Int), l.length - i = d → i ≤ l.length → x3.length ≤ 5 * i →
    Evt (fun k => wire_prefixes.l0 k x3 l (l.length : Int) (i : Int)) (x3 ++ preB (l.drop i)) := by
  intro d
  induction d with
  | zero =>
    intro i x3 hd hi h3
    rw [List.drop_eq_nil_of_le (by omega), show preB [] = [] from rfl, List.append_nil]
    refine Evt.step ?_
    simp only [wire_prefixes.l0]
    exact Evt.ite_neg (by omega) (Evt.pure _)
  | succ d ih =>
    intro i x3 hd hi h3
    obtain ⟨x, hxm, hx, hdr⟩ := pat (l := l) (i := i) (by omega)
    have hp := wPrefix_ev x3 (by omega) x.f0 x.f1 (hok x hxm)
    rw [if_pos (hm x hxm)] at hp
    have r1 := ih (i + 1) (x3 ++ pfx x.f0 x.f1) (by omega) (by omega) (by have := pfxL x.f0 x.f1; rw [List.length_append]; omega)
    rw [List.append_assoc] at r1
    rw [hdr, show preB (x :: l.drop (i + 1)) = pfx x.f0 x.f1 ++ preB (l.drop (i + 1)) from rfl]
    refine Evt.step ?_
    simp only [wire_prefixes.l0]
    refine Evt.ite_pos (by omega) (Evt.ite_pos (by omega) (Evt.ite_pos (by omega) ?_))
    rw [rdP_at hx]
    refine Evt.bind hp ?_
    rw [wrap64_in _ (by omega) (by omega)]
    exact r1
theorem preX_ev (l : List S25) (hl : l.length ≤ 100) (hok : ∀ x ∈ l, isA x.f0) (hm : ∀ x ∈ l, mayB x.f0 x.f1 = true) : Evt (fun k => wire_prefixes.f k l) (preB l) := by
  have := preL_ev l hl hok hm l.length 0 [] (by omega) (by omega) (by simp)
  exact this
/-- which updates may be -/
def updB (u : S47) : Bool := risesB u.f0 && (risesB u.f1 && (!decide (u.f0.length + u.f1.length = 0) && (if u.f1.length = 0 then attC u.f2 z41 == 0 else mayAB u.f2.f0 u.f2.f1 u.f2.f2 u.f2.f3 u.f2.f4 u.f2.f5 u.f2.f6)))
structure FewU (u : S47) (n : Nat) : Prop where
  w : u.f0.length ≤ n
  t : u.f1.length ≤ n
  p : u.f2.f3.length ≤ n
  c : u.f2.f4.length ≤ n
  l : u.f2.f6.length ≤ n
  a0 : ∀ x ∈ u.f0, isA x.f0
  a1 : ∀ x ∈ u.f1, isA x.f0
theorem mayX_ev (u : S47) (h : FewU u 100000) : Evt (fun k => wire_May.f k u.f0 u.f1 u.f2.f0 u.f2.f1 u.f2.f2 u.f2.f3 u.f2.f4 u.f2.f5 u.f2.f6) (updB u) := by
  have hw := h.w
  have ht := h.t
  have e0 := risesX_ev u.f0 h.w h.a0
  have e1 := risesX_ev u.f1 h.t h.a1
  have es : Evt (fun k => attr_Same.f k u.f2.f0 u.f2.f1 u.f2.f2 u.f2.f3 u.f2.f4 u.f2.f5 u.f2.f6 0 0 0 ([] : List Int) ([] : List S102) 0 ([] : List Int)) (attC u.f2 z41 == 0) := by
    unfold attr_Same.f
    exact Evt.bind (attrCmp_ev u.f2 z41 h.p h.l) (Evt.pure _)
  have em := attrMay_ev u.f2.f0 u.f2.f1 u.f2.f2 u.f2.f3 u.f2.f4 u.f2.f5 u.f2.f6 h.c h.l
  have jt : Evt (fun k => wire_May.j0 k true u.f0 u.f1 u.f2.f0 u.f2.f1 u.f2.f2 u.f2.f3 u.f2.f4 u.f2.f5 u.f2.f6) false := Evt.step (by simp only [wire_May.j0]; exact Evt.ite_pos (by first | rfl | trivial) (Evt.pure _))
  unfold wire_May.f updB
  cases h0 : risesB u.f0 with
  | false => rw [h0] at e0; exact Evt.bind e0 (Evt.ite_neg (by simp) jt)
  | true =>
    rw [h0] at e0
    refine Evt.bind e0 (Evt.ite_pos rfl ?_)
    cases h1 : risesB u.f1 with
    | false => rw [h1] at e1; exact Evt.bind e1 (Evt.ite_neg (by simp) jt)
    | true =>
      rw [h1] at e1
      refine Evt.bind e1 (Evt.ite_pos rfl ?_)
      rw [wrap64_in _ (by omega) (by omega)]
      by_cases hz : u.f0.length + u.f1.length = 0
      · rw [show ((u.f0.length : Int) + (u.f1.length : Int) == 0) = true by rw [beq_iff_eq]; omega]
        simpa [hz] using jt
      · rw [show ((u.f0.length : Int) + (u.f1.length : Int) == 0) = false by rw [beq_eq_false_iff_ne]; omega, decide_eq_false hz]
        refine Evt.step ?_
        simp only [wire_May.j0]
        refine Evt.ite_neg (by simp) ?_
        by_cases hn : u.f1.length = 0
        · simp only [hn, if_true, Bool.true_and, Bool.not_false]
          refine Evt.ite_pos (by omega) (Evt.bind es (Evt.pure _))
        · simp only [hn, if_false, Bool.true_and, Bool.not_false]
          refine Evt.ite_neg (by omega) (Evt.bind em (Evt.pure _))
theorem updB_few {u : S47} (h : updB u = true) : u.f0.length ≤ 32 ∧ u.f1.length ≤ 32 ∧ u.f2.f3.length ≤ 16 ∧ u.f2.f4.length ≤ 8 ∧ u.f2.f6.length ≤ 8 := by
  unfold updB at h
  simp only [Bool.and_eq_true] at h
  obtain ⟨h0, h1, _, h3⟩ := h
  refine ⟨(risesB_all h0).1, (risesB_all h1).1, ?_⟩
  split at h3
  · have e := (attC_zero u.f2 z41).1 (by simpa using h3)
    rw [e]; simp [z41]
  · unfold mayAB pathB setB clustB at h3
    simp only [Bool.and_eq_true, decide_eq_true_eq] at h3
    exact ⟨h3.2.1.1, h3.2.2.1.1, h3.2.2.2.1⟩
/-- what stands behind an update's head -/
def datB (u : S47) : List Int := beB 2 ((preB u.f0).length : Int) ++ preB u.f0 ++ beB 2 ((if u.f1.length = 0 then [] else atB u.f2.f0 u.f2.f1 u.f2.f2 u.f2.f3 u.f2.f4 u.f2.f5 u.f2.f6).length : Int) ++ (if u.f1.length = 0 then [] else atB u.f2.f0 u.f2.f1 u.f2.f2 u.f2.f3 u.f2.f4 u.f2.f5 u.f2.f6) ++ preB u.f1
theorem datB_len {u : S47} (h : updB u = true) : (datB u).length ≤ 500 := by
  obtain ⟨h0, h1, h2, h3, h4⟩ := updB_few h
  have p0 := preB_len u.f0
  have p1 := preB_len u.f1
  have p2 := atB_len u.f2.f0 u.f2.f1 u.f2.f2 u.f2.f3 u.f2.f4 u.f2.f5 u.f2.f6
  unfold datB
  simp only [List.length_append, beB_len]
  split <;> (try simp only [List.length_nil]) <;> omega
/-- an update's bytes -/
def encB (u : S47) : List Int := wire_framed.hd 2 (19 + ((datB u).length : Int)) ++ datB u
theorem encX_ev (u : S47) (h : FewU u 100000) : Evt (fun k => wire_Encode.f k u.f0 u.f1 u.f2.f0 u.f2.f1 u.f2.f2 u.f2.f3 u.f2.f4 u.f2.f5 u.f2.f6) (if updB u = true then (encB u, 0) else ([], 1)) := by
  have hm := mayX_ev u h
  unfold wire_Encode.f
  by_cases hu : updB u = true
  · rw [if_pos hu]
    rw [hu] at hm
    have hd := datB_len hu
    obtain ⟨l0, l1, l2, l3, l4⟩ := updB_few hu
    have r0 : ∀ x ∈ u.f0, mayB x.f0 x.f1 = true := by unfold updB at hu; simp only [Bool.and_eq_true] at hu; exact (risesB_all hu.1).2
    have r1 : ∀ x ∈ u.f1, mayB x.f0 x.f1 = true := by unfold updB at hu; simp only [Bool.and_eq_true] at hu; exact (risesB_all hu.2.1).2
    have ew := preX_ev u.f0 (by omega) h.a0 r0
    have ew2 := preX_ev u.f1 (by omega) h.a1 r1
    have p0 := preB_len u.f0
    have p1 := preB_len u.f1
    have eb1 := num2_ev [] ((preB u.f0).length : Int) (by simp)
    have er : ∀ D : List Int, D.length ≤ 1000000 → wire_framed.f 2 D = some (wire_framed.hd 2 (19 + (D.length : Int)) ++ D) := fun D hD => by unfold wire_framed.f; rw [if_pos hD]
    have er := er (datB u) (by omega)
    refine Evt.bind hm (Evt.ite_pos rfl (Evt.bind ew (Evt.bind eb1 (Evt.ite_pos (by simp [beB_len]; omega) (Evt.bindc rfl ?_)))))
    by_cases hn : u.f1.length = 0
    · have eb2 := num2_ev ([] ++ beB 2 ((preB u.f0).length : Int) ++ preB u.f0) 0 (by simp [beB_len]; omega)
      have hdd : datB u = [] ++ beB 2 ((preB u.f0).length : Int) ++ preB u.f0 ++ beB 2 0 ++ preB u.f1 := by unfold datB; rw [if_pos hn]; simp
      rw [hdd] at er
      unfold encB
      rw [hdd]
      refine Evt.ite_neg (by omega) (Evt.bind eb2 (Evt.bind ew2 (Evt.ite_pos (by simp [beB_len]; omega) (Evt.bindc er (Evt.pure _)))))
    · have ea := xt_ev u.f2.f0 u.f2.f1 u.f2.f2 u.f2.f3 u.f2.f4 u.f2.f5 u.f2.f6 (by omega) (by omega) (by omega)
      have p2 := atB_len u.f2.f0 u.f2.f1 u.f2.f2 u.f2.f3 u.f2.f4 u.f2.f5 u.f2.f6
      have eb2 := num2_ev ([] ++ beB 2 ((preB u.f0).length : Int) ++ preB u.f0) ((atB u.f2.f0 u.f2.f1 u.f2.f2 u.f2.f3 u.f2.f4 u.f2.f5 u.f2.f6).length : Int) (by simp [beB_len]; omega)
      have hdd : datB u = [] ++ beB 2 ((preB u.f0).length : Int) ++ preB u.f0 ++ beB 2 ((atB u.f2.f0 u.f2.f1 u.f2.f2 u.f2.f3 u.f2.f4 u.f2.f5 u.f2.f6).length : Int) ++ atB u.f2.f0 u.f2.f1 u.f2.f2 u.f2.f3 u.f2.f4 u.f2.f5 u.f2.f6 ++ preB u.f1 := by unfold datB; rw [if_neg hn]; simp
      rw [hdd] at er
      unfold encB
      rw [hdd]
      refine Evt.ite_pos (by omega) (Evt.bind ea (Evt.bind eb2 (Evt.ite_pos (by simp [beB_len]; omega) (Evt.bindc rfl (Evt.bind ew2 (Evt.ite_pos (by simp [beB_len]; omega) (Evt.bindc er (Evt.pure _))))))))
  · rw [if_neg hu]
    rw [Bool.eq_false_iff.mpr hu] at hm
    exact Evt.bind hm (Evt.ite_neg (by simp) (Evt.pure _))
end Go.Proofs.Ytjmpojfpbhihpaa.P

end
