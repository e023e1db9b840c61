/- The walks of the scanner's next and run, and of plain: each call returns what the plain words say, for every scanner state within the stated bounds. -/
import Derived.Test.YtpolmnemknehaaaProg
import Derived.Test.YtpolmnemknehaaaLexP
import Derived.WalkKit
import Derived.Deep.LoopGhost
import Derived.Deep.QuietTactic
import Derived.BigQuiet
import Derived.OneCell
import Derived.IntWalk
import Derived.Laws.AppendOwn
import Derived.Laws.OwnMore
set_option linter.unusedVariables false
set_option linter.unusedSimpArgs false
namespace Go.Proofs.Ytpolmnemknehaaa
open Go.RowKit

/-! the plain words -/
def plainB (c : Int) : Bool := decide (32 ≤ c) && decide (c ≤ 126) && (c != 34)

def bt (s : ByteArray) (i : Int) : Int := if h : i.toNat < s.size then ((s[i.toNat]'h).toNat : Int) else 0
theorem bt_at (s : ByteArray) (i : Int) : ∀ h : i.toNat < s.size, ((s[i.toNat]'h).toNat : Int) = bt s i := fun h => by simp [bt, h]
theorem bt_nat (s : ByteArray) (k : Nat) (h : k < s.size) : bt s k = s[k].toNat := by simp [bt, h]
/-- the scanner's block -/
def Sc (w : World) (g : Nat) (s : ByteArray) (a l c : Int) (v : Value) (f : Bool) : Prop :=
  w.heap[g]? = some (.cells #[.string s, .int .i64 a, .int .i64 l, .int .i64 c, v, .bool f] 46 (0, 0))

theorem Sc.cells {w : World} {g : Nat} {s : ByteArray} {a l c : Int} {v : Value} {f : Bool} (h : Sc w g s a l c v f) :
    w.cell? ⟨g, 0, none⟩ = some (.string s) ∧ w.cell? ⟨g, 1, none⟩ = some (.int .i64 a) ∧ w.cell? ⟨g, 2, none⟩ = some (.int .i64 l) ∧
    w.cell? ⟨g, 3, none⟩ = some (.int .i64 c) ∧ w.cell? ⟨g, 4, none⟩ = some v ∧ w.cell? ⟨g, 5, none⟩ = some (.bool f) ∧ ∀ o, w.frozen? ⟨g, o, none⟩ = false := by
  unfold Sc at h
  refine ⟨?_, ?_, ?_, ?_, ?_, ?_, fun o => ?_⟩ <;> simp [World.cell?, World.frozen?, h]

theorem plain_any (c : Int) (w : World) : Calls Try.prog 35 #[.int .u8 c] w fun e w' => e = .returned (.bool (plainB c)) ∧ w = w' := by
  go_enter Try.func35, Try.ntmps35
  go_wp2
  all_goals (go_ret; refine ⟨?_, rfl⟩; simp only [plainB]; congr 2; simp [*] <;> omega)


theorem Sc.set1 {w : World} {g : Nat} {s : ByteArray} {a l c : Int} {v : Value} {f : Bool} (h : Sc w g s a l c v f) (x : Int) : Sc (w.setCell ⟨g, 1, none⟩ (.int .i64 x)) g s x l c v f := by
  unfold Sc at *; simp [World.setCell, Array.getElem?_modify, h]
theorem Sc.set2 {w : World} {g : Nat} {s : ByteArray} {a l c : Int} {v : Value} {f : Bool} (h : Sc w g s a l c v f) (x : Int) : Sc (w.setCell ⟨g, 2, none⟩ (.int .i64 x)) g s a x c v f := by
  unfold Sc at *; simp [World.setCell, Array.getElem?_modify, h]
theorem Sc.set3 {w : World} {g : Nat} {s : ByteArray} {a l c : Int} {v : Value} {f : Bool} (h : Sc w g s a l c v f) (x : Int) : Sc (w.setCell ⟨g, 3, none⟩ (.int .i64 x)) g s a l x v f := by
  unfold Sc at *; simp [World.setCell, Array.getElem?_modify, h]
theorem Sc.set4 {w : World} {g : Nat} {s : ByteArray} {a l c : Int} {v : Value} {f : Bool} (h : Sc w g s a l c v f) (x : Value) : Sc (w.setCell ⟨g, 4, none⟩ x) g s a l c x f := by
  unfold Sc at *; simp [World.setCell, Array.getElem?_modify, h]
theorem Sc.set5 {w : World} {g : Nat} {s : ByteArray} {a l c : Int} {v : Value} {f : Bool} (h : Sc w g s a l c v f) (x : Bool) : Sc (w.setCell ⟨g, 5, none⟩ (.bool x)) g s a l c v x := by
  unfold Sc at *; simp [World.setCell, Array.getElem?_modify, h]
theorem Sc.drewN {w : World} {g : Nat} {s : ByteArray} {a l c : Int} {v : Value} {f : Bool} (h : Sc w g s a l c v f) (m : Nat) : Sc (w.drewN m) g s a l c v f := h
theorem Sc.drew {w : World} {g : Nat} {s : ByteArray} {a l c : Int} {v : Value} {f : Bool} (h : Sc w g s a l c v f) : Sc w.drew g s a l c v f := h
theorem gb_refl (w : World) (r : Option Nat) : w.grownBy w r := ⟨rfl, rfl, rfl, Nat.le_refl _, fun _ _ _ => rfl⟩
theorem gb_trans {a b c : World} {r : Option Nat} (h : a.grownBy b r) (k : b.grownBy c r) : a.grownBy c r :=
  ⟨k.os.trans h.os, k.tape.trans h.tape, k.output.trans h.output, Nat.le_trans h.size k.size, fun i hi hr => (k.block i (Nat.lt_of_lt_of_le hi h.size) hr).trans (h.block i hi hr)⟩
theorem gb_set {a b : World} {g : Nat} (h : a.grownBy b (some g)) (o : Nat) (x : Value) : a.grownBy (b.setCell ⟨g, o, none⟩ x) (some g) :=
  gb_trans h ⟨rfl, rfl, rfl, by simp [World.setCell], fun k _ hk => Below.heap_setCell _ _ _ _ (fun e => hk (by rw [e]))⟩
theorem gb_drewN {a b : World} {r : Option Nat} (h : a.grownBy b r) (m : Nat) : a.grownBy (b.drewN m) r := ⟨h.os, h.tape, h.output, h.size, h.block⟩
theorem gb_drew {a b : World} {r : Option Nat} (h : a.grownBy b r) : a.grownBy b.drew r := ⟨h.os, h.tape, h.output, h.size, h.block⟩

theorem take_drop_succ (s : ByteArray) (a k : Nat) (h : a + k < s.size) : (s.data.toList.drop a).take (k + 1) = (s.data.toList.drop a).take k ++ [s[a + k]] := by
  rw [List.take_succ_eq_append_getElem (by simp; omega)]
  simp; rfl
theorem advs_snoc (p : Int × Int) (l : List UInt8) (b : UInt8) : advs p (l ++ [b]) = adv (advs p l) b := by simp [advs]
theorem adv_bound (p : Int × Int) (b : UInt8) (h1 : 0 ≤ p.1) (h2 : 0 ≤ p.2) : 0 ≤ (adv p b).1 ∧ 0 ≤ (adv p b).2 ∧ (adv p b).1 ≤ p.1 + 1 ∧ (adv p b).2 ≤ p.2 + 1 := by
  unfold adv; split <;> simp <;> omega
theorem advs_bound (l : List UInt8) : ∀ (p : Int × Int) (h1 : 0 ≤ p.1) (h2 : 0 ≤ p.2), 0 ≤ (advs p l).1 ∧ 0 ≤ (advs p l).2 ∧ (advs p l).1 ≤ p.1 + l.length ∧ (advs p l).2 ≤ p.2 + l.length := by
  induction l with
  | nil => intro p h1 h2; simp [advs]; omega
  | cons b l ih =>
    intro p h1 h2
    have hb := adv_bound p b h1 h2
    have := ih (adv p b) hb.1 hb.2.1
    simp only [advs, List.foldl_cons] at *
    simp only [List.length_cons]
    omega

set_option maxHeartbeats 1000000 in
theorem next_any0 (g : Nat) (s : ByteArray) (a n : Nat) (l c : Int) (v : Value) (f : Bool) (w : World) (hs : s.size ≤ 140737488351232) (h : Sc w g s a l c v f) (hn : a + n ≤ s.size) (hl0 : 0 ≤ l) (hc0 : 0 ≤ c) (hl : l ≤ 140737488351232) (hc : c ≤ 140737488351232):
    Calls Try.prog 21 #[.pointer (some ⟨g, 0, none⟩), .int .i64 n] w fun e w' => e = .returned (.tuple #[]) ∧
      Sc w' g s (a + n : Nat) (advs (l, c) ((s.data.toList.drop a).take n)).1 (advs (l, c) ((s.data.toList.drop a).take n)).2 v f ∧ w.grownBy w' (some g) := by
  have H0 : Hid (Sc w g s a l c v f) := h
  clear h
  go_enter Try.func21, Try.ntmps21
  go_wp2
  go_loopg [5] n (fun kq v5 w' => ∃ k : Nat, v5 = .int .i64 k ∧ Hid (k + kq = n) ∧ Hid (Sc w' g s (a + k : Nat) (advs (l, c) ((s.data.toList.drop a).take k)).1 (advs (l, c) ((s.data.toList.drop a).take k)).2 v f) ∧ Hid (w.grownBy w' (some g)))
  case atStart => exact ⟨0, rfl, by unfold Hid; omega, H0, gb_refl _ _⟩
  case round =>
    obtain ⟨k, rfl, hk, hS, hG⟩ := hrel
    have hk' := hk.out
    have hkn : k ≤ n := by omega
    clear hk'
    by_cases hlt : k < n
    · have hak : a + k < s.size := by omega
      have hts := take_drop_succ s a k hak
      obtain ⟨L, C, hLC⟩ : ∃ L C, advs (l, c) ((s.data.toList.drop a).take k) = (L, C) := ⟨_, _, rfl⟩
      have hbd := advs_bound ((s.data.toList.drop a).take k) (l, c) hl0 hc0
      have hlen : ((s.data.toList.drop a).take k).length ≤ k := List.length_take_le _ _
      rw [hLC] at hbd hS
      simp only at hbd
      have hb1 := hbd.1
      have hb2 := hbd.2.1
      have hb3 : L ≤ 281474976710656 := by omega
      have hb4 : C ≤ 281474976710656 := by omega
      clear hbd hlen
      have HLC : Hid (advs (l, c) ((s.data.toList.drop a).take (k + 1)) = adv (L, C) s[a + k]) := by rw [hts, advs_snoc, hLC]; exact rfl
      have hbn := bt_nat s (a + k) hak
      clear hts hLC
      obtain ⟨X, hX⟩ : ∃ X : Int, X = ((a + k : Nat) : Int) := ⟨_, rfl⟩
      rw [← hX] at hS hbn
      have i0 : 0 ≤ X := by omega
      have i1 : X < (s.size : Int) := by omega
      have i2 : X ≤ 140737488351232 := by omega
      have HX : Hid (X = ((a + k : Nat) : Int)) := hX
      have HBN : Hid (bt s X = s[a + k].toNat) := hbn
      clear hX hbn
      have hx := bt_at s X
      obtain ⟨c0, c1, c2, c3, c4, c5, cf⟩ := hS.out.cells
      have f1 := cf 1
      have f2 := cf 2
      have f3 := cf 3
      clear cf
      by_cases hb : bt s X = 10
      · have hb' : (bt s X == 10) = true := by simp [hb]
        have HB : Hid (bt s X = 10) := hb
        clear hb
        go_wp2
        go_quiet (fail)
        go_wp2
        go_roundg (n - (k + 1))
        case measure => have := hk.out; omega
        case rel =>
          refine ⟨k + 1, by go_num, by have := hk.out; unfold Hid at *; omega, ?_, ?_⟩
          · have e := HLC.out
            rw [adv, if_pos (by have := HB.out; have := HBN.out; omega)] at e
            rw [e, show ((a + (k + 1) : Nat) : Int) = X + 1 from by have := HX.out; omega]
            show Sc _ _ _ _ _ _ _ _
            repeat (with_reducible first | exact hS.out | apply Sc.drewN | apply Sc.drew | apply Sc.set1 | apply Sc.set2 | apply Sc.set3)
          · show World.grownBy _ _ _
            repeat (with_reducible first | exact hG.out | apply gb_drewN | apply gb_drew | apply gb_set)
      · have hb' : (bt s X == 10) = false := by simp [hb]
        have HB : Hid (¬ bt s X = 10) := hb
        clear hb
        go_wp2
        go_quiet (fail)
        go_wp2
        go_roundg (n - (k + 1))
        case measure => have := hk.out; omega
        case rel =>
          refine ⟨k + 1, by go_num, by have := hk.out; unfold Hid at *; omega, ?_, ?_⟩
          · have e := HLC.out
            rw [adv, if_neg (by have := HB.out; have := HBN.out; omega)] at e
            rw [e, show ((a + (k + 1) : Nat) : Int) = X + 1 from by have := HX.out; omega]
            show Sc _ _ _ _ _ _ _ _
            repeat (with_reducible first | exact hS.out | apply Sc.drewN | apply Sc.drew | apply Sc.set1 | apply Sc.set2 | apply Sc.set3)
          · show World.grownBy _ _ _
            repeat (with_reducible first | exact hG.out | apply gb_drewN | apply gb_drew | apply gb_set)
    · have hkn : k = n := by omega
      subst hkn
      go_wp2
      go_end0
      exact ⟨rfl, hS.out, hG.out⟩

/-- what a byte is asked -/
structure Asks (fid : Nat) (p : Int → Bool) : Prop where
  enters : ∀ (args : Array Value) (w : World), (callFunc fid args).run Try.prog w = .ok (.enter fid args) w
  calls : ∀ (x : Int) (w : World), 0 ≤ x → x < 256 → Calls Try.prog fid #[.int .u8 x] w fun e w' => e = .returned (.bool (p x)) ∧ w = w'
/-- how far it goes -/
def runLen (p : Int → Bool) (s : ByteArray) (i : Nat) : Nat := ((s.data.toList.drop i).takeWhile fun b => p b.toNat).length
theorem drop_cons (s : ByteArray) (i : Nat) (h : i < s.size) : s.data.toList.drop i = s[i] :: s.data.toList.drop (i + 1) := by
  rw [List.drop_eq_getElem_cons (by simpa using h)]; rfl
theorem runLen_step (p : Int → Bool) (s : ByteArray) (i : Nat) (h : i < s.size) (hp : p s[i].toNat = true) : runLen p s i = runLen p s (i + 1) + 1 := by
  unfold runLen; rw [drop_cons s i h, List.takeWhile_cons_of_pos (by simpa using hp)]; rfl
theorem runLen_stop (p : Int → Bool) (s : ByteArray) (i : Nat) (h : i < s.size) (hp : p s[i].toNat = false) : runLen p s i = 0 := by
  unfold runLen; rw [drop_cons s i h, List.takeWhile_cons_of_neg (by simp [hp])]; rfl
theorem runLen_end (p : Int → Bool) (s : ByteArray) (i : Nat) (h : s.size ≤ i) : runLen p s i = 0 := by
  unfold runLen; rw [List.drop_of_length_le (by simpa using h)]; rfl
theorem runLen_le (p : Int → Bool) (s : ByteArray) (i : Nat) (h : i ≤ s.size) : i + runLen p s i ≤ s.size := by
  unfold runLen
  have h1 : (s.data.toList.drop i).length = s.size - i := by simp
  have := (List.takeWhile_sublist (fun b : UInt8 => p b.toNat) (l := s.data.toList.drop i)).length_le
  omega

set_option maxHeartbeats 1000000 in
theorem run_any (fid : Nat) (p : Int → Bool) (hp : Asks fid p) (g : Nat) (s : ByteArray) (a n : Int) (l c : Int) (v : Value) (f : Bool) (w : World) (hs : s.size ≤ 140737488351232) (h : Sc w g s a l c v f) (ha : 0 ≤ a) (hn0 : 0 ≤ n) (hn : a + n ≤ s.size) :
    Calls Try.prog 22 #[.pointer (some ⟨g, 0, none⟩), .int .i64 n, .func (.func fid) #[] #[]] w fun e w' => e = .returned (.int .i64 (n + runLen p s (a + n).toNat)) ∧ ∃ m, w' = w.drewN m := by
  have H0 : Hid (Sc w g s a l c v f) := h
  clear h
  have hr := runLen_le p s (a + n).toNat (by omega)
  have HR : Hid ((a + n).toNat + runLen p s (a + n).toNat ≤ s.size) := hr
  clear hr
  have HP : Hid (Asks fid p) := hp
  have hen := hp.enters
  clear hp
  go_enter Try.func22, Try.ntmps22
  go_wp2
  go_loopg [7] (runLen p s (a + n).toNat) (fun kq v7 w' => ∃ k : Int, v7 = .int .i64 k ∧ Hid (n ≤ k ∧ k + kq = n + runLen p s (a + n).toNat ∧ kq = runLen p s (a + k).toNat) ∧ Hid (∃ m, w' = w.drewN m))
  case atStart => exact ⟨n, rfl, ⟨Int.le_refl _, rfl, rfl⟩, ⟨0, rfl⟩⟩
  case round =>
    obtain ⟨k, rfl, hk, hW⟩ := hrel
    have hS : Sc wr g s a l c v f := by obtain ⟨m, hm⟩ := hW.out; rw [hm]; exact H0.out
    have hkb : a + k ≤ s.size := by have := hk.out; have := HR.out; omega
    have e1 : 0 ≤ k := by have := hk.out; omega
    obtain ⟨c0, c1, c2, c3, c4, c5, cf⟩ := hS.cells
    clear c2 c3 c4 c5 cf hS
    have e3 : IntKind.i64.wrap (a + k) = a + k := IntWalk.i64_in _ (by omega)
    have e4 : 0 ≤ a + k := by omega
    by_cases hlt : a + k < s.size
    · have hbn := bt_nat s (a + k).toNat (by omega)
      have hx := bt_at s (a + k)
      have hbr : 0 ≤ bt s (a + k) ∧ bt s (a + k) < 256 := by
        have := (s[(a + k).toNat]).toNat_lt; rw [show (((a + k).toNat : Nat) : Int) = a + k from by omega] at hbn; omega
      obtain ⟨h3, h4⟩ := hbr
      have HBN : Hid (bt s (((a + k).toNat : Nat) : Int) = s[(a + k).toNat].toNat) := hbn
      clear hbn
      have e2' : decide (a + k < (s.size : Int)) = true := decide_eq_true hlt
      cases hpb : p (bt s (a + k)) with
      | true =>
        have HC : Hid (∀ w, Calls Try.prog fid #[.int .u8 (bt s (a + k))] w fun e w' => e = .returned (.bool true) ∧ w' = w) := fun w => (HP.out.calls _ w h3 h4).mono fun _ _ ⟨x, y⟩ => ⟨by rw [x, hpb], y.symm⟩
        have HPB : Hid (p (bt s (a + k)) = true) := hpb
        clear hpb
        go_wp2_with fail
        go_quiet (exact Calls.quiet_of_same (HC.out _))
        go_wp2
        go_roundg (runLen p s (a + k + 1).toNat)
        case measure =>
          have := hk.out
          have h5 := runLen_step p s (a + k).toNat (by omega) (by rw [← HBN.out]; rw [show (((a + k).toNat : Nat) : Int) = a + k from by omega]; exact HPB.out)
          rw [show (a + k).toNat + 1 = (a + k + 1).toNat from by omega] at h5
          omega
        case rel =>
          refine ⟨k + 1, rfl, ?_, ?_⟩
          · have h6 := hk.out
            have h5 := runLen_step p s (a + k).toNat (by omega) (by rw [← HBN.out]; rw [show (((a + k).toNat : Nat) : Int) = a + k from by omega]; exact HPB.out)
            rw [show (a + k).toNat + 1 = (a + k + 1).toNat from by omega] at h5
            refine ⟨by omega, by omega, by rw [show a + (k + 1) = a + k + 1 from by omega]⟩
          · obtain ⟨m, hm⟩ := hW.out; exact ⟨_, by rw [hm, World.drewN_drewN]⟩
      | false =>
        have HC : Hid (∀ w, Calls Try.prog fid #[.int .u8 (bt s (a + k))] w fun e w' => e = .returned (.bool false) ∧ w' = w) := fun w => (HP.out.calls _ w h3 h4).mono fun _ _ ⟨x, y⟩ => ⟨by rw [x, hpb], y.symm⟩
        have HPB : Hid (p (bt s (a + k)) = false) := hpb
        clear hpb
        go_wp2_with fail
        go_quiet (exact Calls.quiet_of_same (HC.out _))
        go_wp2
        go_ret
        have h5 := runLen_stop p s (a + k).toNat (by omega) (by rw [← HBN.out]; rw [show (((a + k).toNat : Nat) : Int) = a + k from by omega]; exact HPB.out)
        have h6 := hk.out
        rw [h5] at h6
        refine ⟨by rw [show k = n + (runLen p s (a + n).toNat : Int) from by omega]; rfl, ?_⟩
        obtain ⟨m, hm⟩ := hW.out; exact ⟨_, by rw [hm, World.drewN_drewN]⟩
    · have e2' : decide (a + k < (s.size : Int)) = false := decide_eq_false (by omega)
      go_wp2_with fail
      go_quiet (fail)
      go_wp2
      go_ret
      have h5 := runLen_end p s (a + k).toNat (by omega)
      have h6 := hk.out
      rw [h5] at h6
      refine ⟨by rw [show k = n + (runLen p s (a + n).toNat : Int) from by omega]; rfl, ?_⟩
      obtain ⟨m, hm⟩ := hW.out; exact ⟨_, by rw [hm, World.drewN_drewN]⟩

end Go.Proofs.Ytpolmnemknehaaa
