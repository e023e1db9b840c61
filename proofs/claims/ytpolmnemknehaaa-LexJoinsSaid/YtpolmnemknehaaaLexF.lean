/- The walk of one, case by case of the byte that stands there. -/
import Derived.Test.YtpolmnemknehaaaLexE
set_option linter.unusedVariables false
set_option linter.unusedSimpArgs false
namespace Go.Proofs.Ytpolmnemknehaaa
open Go.RowKit

theorem advs_one (p : Int × Int) (s : ByteArray) (a : Nat) (h : a < s.size) : advs p ((s.data.toList.drop a).take 1) = adv p s[a] := by
  rw [drop_cons s a h]; simp [advs]

set_option maxHeartbeats 2000000 in
set_option maxRecDepth 100000 in
theorem one_blank (B g : Nat) (s : ByteArray) (a l c : Int) (m : Nat) (xs : List Value) (f : Bool) (w : World) (hs : s.size ≤ 140737488351232)
    (h : At B w g s a l c m xs f) (ha : 0 ≤ a) (ha2 : a < s.size) (hb : blankB (bt s a) = true)
    (hl0 : 0 ≤ l) (hc0 : 0 ≤ c) (hl : l ≤ 140737488351232) (hc : c ≤ 140737488351232) :
    Calls Try.prog 15 #[.pointer (some ⟨g, 0, none⟩)] w fun e w' => e = .returned (.int .i64 0) ∧
      At B w' g s (a + 1) (advs (l, c) ((s.data.toList.drop a.toNat).take (1 : Int).toNat)).1 (advs (l, c) ((s.data.toList.drop a.toNat).take (1 : Int).toNat)).2 m xs true ∧ Below B w w' := by
  obtain ⟨v, hS, hown, hvg, hBg⟩ := h
  have hx := bt_at s a
  have HS := mkHid hS
  have HOWN := mkHid hown
  have HVG := mkHid hvg
  have hgs := lt_of_block hS
  clear hown hvg
  obtain ⟨c0, c1, c2, c3, c4, c5, cf⟩ := hS.cells
  clear hS cf c2 c3 c4 c5
  obtain ⟨b, hbb⟩ : ∃ b, b = bt s a := ⟨_, rfl⟩
  rw [← hbb] at hx hb
  have HB := mkHid hb
  have HBB := mkHid hbb
  clear hb hbb
  go_enter Try.func15, Try.ntmps15
  go_wp2_with fail
  go_quiet (fail)
  go_wp2_with fail
  refine (blank_any _ _).mono ?_
  rintro e w' ⟨rfl, rfl⟩
  rw [HB.out]
  go_wp2_with fail
  refine (next_any g s a 1 l c v f _ hs (HS.out.drewN _) ha (by omega) (by omega) hl0 hc0 hl hc).mono ?_
  rintro e w' ⟨rfl, hS2, hG2⟩
  have HS2 := mkHid hS2
  have HG2 := mkHid hG2
  obtain ⟨d0, d1, d2, d3, d4, d5, df⟩ := hS2.cells
  have e5 := df 5
  clear hS2 hG2 d0 d1 d2 d3 d4 df
  go_wp2_with fail
  go_ret
  refine ⟨rfl, ⟨v, HS2.out.set5 _, ?_, HVG.out, hBg⟩, ?_⟩
  · exact ownsRow_setCell_other (World.ownsRow.kept (w := World.drewN _ _) HOWN.out HG2.out (.inr HVG.out)) HVG.out _
  · exact (Below.grown (⟨rfl, rfl, rfl, Nat.le_refl _, fun _ _ => rfl⟩ : Below B w (w.drewN _)) HG2.out (by simp; omega) (fun k hk => by cases hk; exact hBg)).setCell hBg _

def hashLen (s : ByteArray) (a : Int) : Int := 0 + runLen (fun c => c != 10) s (a + 0).toNat
theorem hashLen_bd (s : ByteArray) (a : Int) (ha : 0 ≤ a) (ha2 : a ≤ s.size) : 0 ≤ hashLen s a ∧ a + hashLen s a ≤ s.size := by
  have := runLen_le (fun c => c != 10) s (a + 0).toNat (by omega)
  unfold hashLen; omega

set_option maxHeartbeats 2000000 in
set_option maxRecDepth 100000 in
theorem one_hash (B g : Nat) (s : ByteArray) (a l c : Int) (m : Nat) (xs : List Value) (f : Bool) (w : World) (hs : s.size ≤ 140737488351232)
    (h : At B w g s a l c m xs f) (ha : 0 ≤ a) (ha2 : a < s.size) (hb : blankB (bt s a) = false) (hh : bt s a = 35)
    (hl0 : 0 ≤ l) (hc0 : 0 ≤ c) (hl : l ≤ 140737488351232) (hc : c ≤ 140737488351232) :
    Calls Try.prog 15 #[.pointer (some ⟨g, 0, none⟩)] w fun e w' => e = .returned (.int .i64 0) ∧
      At B w' g s (a + hashLen s a) (advs (l, c) ((s.data.toList.drop a.toNat).take (hashLen s a).toNat)).1 (advs (l, c) ((s.data.toList.drop a.toNat).take (hashLen s a).toNat)).2 m xs true ∧ Below B w w' := by
  obtain ⟨v, hS, hown, hvg, hBg⟩ := h
  have hx := bt_at s a
  have HS := mkHid hS
  have HOWN := mkHid hown
  have HVG := mkHid hvg
  have hgs := lt_of_block hS
  clear hown hvg
  obtain ⟨c0, c1, c2, c3, c4, c5, cf⟩ := hS.cells
  clear hS cf c2 c3 c4 c5
  obtain ⟨b, hbb⟩ : ∃ b, b = bt s a := ⟨_, rfl⟩
  rw [← hbb] at hx hb hh
  have h35 : (b == 35) = true := by simp [hh]
  clear hh
  have hnb := hashLen_bd s a ha (by omega)
  obtain ⟨n, hn⟩ : ∃ n : Int, n = hashLen s a := ⟨_, rfl⟩
  rw [← hn] at hnb ⊢
  obtain ⟨h1, h2⟩ := hnb
  have HN := mkHid hn
  clear hn
  have HB := mkHid hb
  have HBB := mkHid hbb
  clear hb hbb
  go_enter Try.func15, Try.ntmps15
  go_wp2_with fail
  go_quiet (fail)
  go_wp2_with fail
  refine (blank_any _ _).mono ?_
  rintro e w' ⟨rfl, rfl⟩
  rw [HB.out]
  go_wp2_with fail
  refine (run_any 23 _ asks_nl g s a 0 l c v f _ hs (HS.out.drewN _) ha (by omega) (by omega)).mono ?_
  rintro e w' ⟨rfl, mm, rfl⟩
  rw [show 0 + (runLen (fun c => c != 10) s (a + 0).toNat : Int) = n from HN.out.symm]
  go_wp2_with fail
  refine (next_any g s a n l c v f _ hs (HS.out.drewN _) ha (by omega) (by omega) hl0 hc0 hl hc).mono ?_
  rintro e w' ⟨rfl, hS2, hG2⟩
  have HS2 := mkHid hS2
  have HG2 := mkHid hG2
  obtain ⟨d0, d1, d2, d3, d4, d5, df⟩ := hS2.cells
  have e5 := df 5
  clear hS2 hG2 d0 d1 d2 d3 d4 df
  go_wp2_with fail
  go_ret
  refine ⟨rfl, ⟨v, HS2.out.set5 _, ?_, HVG.out, hBg⟩, ?_⟩
  · exact ownsRow_setCell_other (World.ownsRow.kept (w := World.drewN _ _) HOWN.out HG2.out (.inr HVG.out)) HVG.out _
  · exact (Below.grown (⟨rfl, rfl, rfl, Nat.le_refl _, fun _ _ => rfl⟩ : Below B w (w.drewN _)) HG2.out (by simp; omega) (fun k hk => by cases hk; exact hBg)).setCell hBg _

set_option maxHeartbeats 2000000 in
set_option maxRecDepth 100000 in
theorem one_mark (B g : Nat) (s : ByteArray) (a l c : Int) (m : Nat) (xs : List Value) (f : Bool) (w : World) (hs : s.size ≤ 140737488351232)
    (h : At B w g s a l c m xs f) (ha : 0 ≤ a) (ha2 : a < s.size) (hb : blankB (bt s a) = false) (hh : bt s a ≠ 35) (hm : markB (bt s a) = true) (hmm : m ≤ 1000000)
    (hl0 : 0 ≤ l) (hc0 : 0 ≤ c) (hl : l ≤ 140737488351232) (hc : c ≤ 140737488351232) :
    Calls Try.prog 15 #[.pointer (some ⟨g, 0, none⟩)] w fun e w' => e = .returned (.int .i64 0) ∧
      At B w' g s (a + 1) (advs (l, c) ((s.data.toList.drop a.toNat).take (1 : Int).toNat)).1 (advs (l, c) ((s.data.toList.drop a.toNat).take (1 : Int).toNat)).2 (m + 1) (xs ++ [.int .i64 2, .string (s.extract a.toNat (a + 1).toNat), .int .i64 l, .int .i64 c]) true ∧ Below B w w' := by
  obtain ⟨v, hS, hown, hvg, hBg⟩ := h
  have hx := bt_at s a
  have HS := mkHid hS
  have HOWN := mkHid hown
  have HVG := mkHid hvg
  have hgs := lt_of_block hS
  clear hown hvg
  obtain ⟨c0, c1, c2, c3, c4, c5, cf⟩ := hS.cells
  clear hS cf c2 c3 c4 c5
  obtain ⟨b, hbb⟩ : ∃ b, b = bt s a := ⟨_, rfl⟩
  rw [← hbb] at hx hb hh hm
  have h35 : (b == 35) = false := by simp [hh]
  clear hh
  have HM := mkHid hm
  clear hm
  have HB := mkHid hb
  have HBB := mkHid hbb
  clear hb hbb
  go_enter Try.func15, Try.ntmps15
  go_wp2_with fail
  go_quiet (fail)
  go_wp2_with fail
  refine (blank_any _ _).mono ?_
  rintro e w' ⟨rfl, rfl⟩
  rw [HB.out]
  go_wp2_with fail
  refine (mark_any _ _).mono ?_
  rintro e w' ⟨rfl, rfl⟩
  rw [HM.out]
  go_wp2_with fail
  have e3 : IntKind.i64.wrap (a + 1) = a + 1 := IntWalk.i64_in _ (by omega)
  have e6 : a ≤ a + 1 := by omega
  have e7 : a + 1 ≤ (s.size : Int) := by omega
  have e8 : 0 ≤ a + 1 := by omega
  go_region_with (go_at_call 25; refine (put_any B g s a l c v f 2 _ 1 m xs (w.drewN (nq + 1)) hs (HS.out.drewN _) HOWN.out HVG.out hBg hmm ha (by omega) (by omega) hl0 hc0 hl hc).mono ?_; rintro e w' ⟨rfl, hR⟩)
  all_goals
    obtain ⟨v', hS', ho', hn', hB'⟩ := hR
    have HS' := mkHid hS'
    have HO' := mkHid ho'
    have HB' := mkHid hB'
    have HN' := mkHid hn'
    clear hS' ho' hB' hn'
    go_wp2_with fail
    go_ret
    exact ⟨rfl, ⟨v', HS'.out, HO'.out, HN'.out, hBg⟩, (⟨rfl, rfl, rfl, Nat.le_refl _, fun _ _ => rfl⟩ : Below B w (w.drewN (nq + 1))).trans HB'.out⟩

set_option maxHeartbeats 2000000 in
set_option maxRecDepth 100000 in
theorem one_text (B g : Nat) (s : ByteArray) (a l c : Int) (m : Nat) (xs : List Value) (f : Bool) (w : World) (E : Int) (R : World → Prop)
    (h : At B w g s a l c m xs f) (ha : 0 ≤ a) (ha2 : a < s.size) (hb : blankB (bt s a) = false) (hh : bt s a ≠ 35) (hm : markB (bt s a) = false) (hf : f = true) (hq : bt s a = 34) (hc : ∀ k, Calls Try.prog 26 #[.pointer (some ⟨g, 0, none⟩)] (w.drewN k) fun e w' => e = .returned (.int .i64 E) ∧ R w') :
    Calls Try.prog 15 #[.pointer (some ⟨g, 0, none⟩)] w fun e w' => e = .returned (.int .i64 E) ∧ R w' := by
  obtain ⟨v, hS, hown, hvg, hBg⟩ := h
  have hx := bt_at s a
  clear hown hvg
  obtain ⟨c0, c1, c2, c3, c4, c5, cf⟩ := hS.cells
  clear hS cf c2 c3 c4
  obtain ⟨b, hbb⟩ : ∃ b, b = bt s a := ⟨_, rfl⟩
  rw [← hbb] at hx hb hh hm hq
  have h35 : (b == 35) = false := by simp [hh]
  clear hh
  have HM := mkHid hm
  clear hm
  subst hf
  have h34 : (b == 34) = true := by simp [hq]
  clear hq
  have HC := mkHid hc
  clear hc
  have HB := mkHid hb
  have HBB := mkHid hbb
  clear hb hbb
  go_enter Try.func15, Try.ntmps15
  go_wp2_with fail
  go_quiet (fail)
  go_wp2_with fail
  refine (blank_any _ _).mono ?_
  rintro e w' ⟨rfl, rfl⟩
  rw [HB.out]
  go_wp2_with fail
  refine (mark_any _ _).mono ?_
  rintro e w' ⟨rfl, rfl⟩
  rw [HM.out]
  go_wp2_with fail
  refine (HC.out _).mono ?_
  rintro e w' ⟨rfl, hR⟩
  have HR := mkHid hR
  clear hR
  go_wp2_with fail
  go_ret
  exact ⟨rfl, HR.out⟩

set_option maxHeartbeats 2000000 in
set_option maxRecDepth 100000 in
theorem one_word (B g : Nat) (s : ByteArray) (a l c : Int) (m : Nat) (xs : List Value) (f : Bool) (w : World) (E : Int) (R : World → Prop)
    (h : At B w g s a l c m xs f) (ha : 0 ≤ a) (ha2 : a < s.size) (hb : blankB (bt s a) = false) (hh : bt s a ≠ 35) (hm : markB (bt s a) = false) (hf : f = true) (hq : bt s a ≠ 34) (hlt : letterB (bt s a) = true) (hc : ∀ k, Calls Try.prog 28 #[.pointer (some ⟨g, 0, none⟩)] (w.drewN k) fun e w' => e = .returned (.int .i64 E) ∧ R w') :
    Calls Try.prog 15 #[.pointer (some ⟨g, 0, none⟩)] w fun e w' => e = .returned (.int .i64 E) ∧ R w' := by
  obtain ⟨v, hS, hown, hvg, hBg⟩ := h
  have hx := bt_at s a
  clear hown hvg
  obtain ⟨c0, c1, c2, c3, c4, c5, cf⟩ := hS.cells
  clear hS cf c2 c3 c4
  obtain ⟨b, hbb⟩ : ∃ b, b = bt s a := ⟨_, rfl⟩
  rw [← hbb] at hx hb hh hm hq hlt
  have h35 : (b == 35) = false := by simp [hh]
  clear hh
  have HM := mkHid hm
  clear hm
  subst hf
  have h34 : (b == 34) = false := by simp [hq]
  clear hq
  have HL := mkHid hlt
  clear hlt
  have HC := mkHid hc
  clear hc
  have HB := mkHid hb
  have HBB := mkHid hbb
  clear hb hbb
  go_enter Try.func15, Try.ntmps15
  go_wp2_with fail
  go_quiet (fail)
  go_wp2_with fail
  refine (blank_any _ _).mono ?_
  rintro e w' ⟨rfl, rfl⟩
  rw [HB.out]
  go_wp2_with fail
  refine (mark_any _ _).mono ?_
  rintro e w' ⟨rfl, rfl⟩
  rw [HM.out]
  go_wp2_with fail
  refine (letter_any _ _).mono ?_
  rintro e w' ⟨rfl, rfl⟩
  rw [HL.out]
  go_wp2_with fail
  refine (HC.out _).mono ?_
  rintro e w' ⟨rfl, hR⟩
  have HR := mkHid hR
  clear hR
  go_wp2_with fail
  go_ret
  exact ⟨rfl, HR.out⟩

set_option maxHeartbeats 2000000 in
set_option maxRecDepth 100000 in
theorem one_stuck1 (B g : Nat) (s : ByteArray) (a l c : Int) (m : Nat) (xs : List Value) (f : Bool) (w : World) (E : Int) (R : World → Prop)
    (h : At B w g s a l c m xs f) (ha : 0 ≤ a) (ha2 : a < s.size) (hb : blankB (bt s a) = false) (hh : bt s a ≠ 35) (hm : markB (bt s a) = false) (hf : f = false) (hE : E = 4) (hc : ∀ k, R (w.drewN k)) :
    Calls Try.prog 15 #[.pointer (some ⟨g, 0, none⟩)] w fun e w' => e = .returned (.int .i64 E) ∧ R w' := by
  obtain ⟨v, hS, hown, hvg, hBg⟩ := h
  have hx := bt_at s a
  clear hown hvg
  obtain ⟨c0, c1, c2, c3, c4, c5, cf⟩ := hS.cells
  clear hS cf c2 c3 c4
  obtain ⟨b, hbb⟩ : ∃ b, b = bt s a := ⟨_, rfl⟩
  rw [← hbb] at hx hb hh hm
  have h35 : (b == 35) = false := by simp [hh]
  clear hh
  have HM := mkHid hm
  clear hm
  subst hf
  subst hE
  have HC := mkHid hc
  clear hc
  have HB := mkHid hb
  have HBB := mkHid hbb
  clear hb hbb
  go_enter Try.func15, Try.ntmps15
  go_wp2_with fail
  go_quiet (fail)
  go_wp2_with fail
  refine (blank_any _ _).mono ?_
  rintro e w' ⟨rfl, rfl⟩
  rw [HB.out]
  go_wp2_with fail
  refine (mark_any _ _).mono ?_
  rintro e w' ⟨rfl, rfl⟩
  rw [HM.out]
  go_wp2_with fail
  go_ret
  exact ⟨rfl, HC.out _⟩

set_option maxHeartbeats 2000000 in
set_option maxRecDepth 100000 in
theorem one_stuck2 (B g : Nat) (s : ByteArray) (a l c : Int) (m : Nat) (xs : List Value) (f : Bool) (w : World) (E : Int) (R : World → Prop)
    (h : At B w g s a l c m xs f) (ha : 0 ≤ a) (ha2 : a < s.size) (hb : blankB (bt s a) = false) (hh : bt s a ≠ 35) (hm : markB (bt s a) = false) (hf : f = true) (hq : bt s a ≠ 34) (hlt : letterB (bt s a) = false) (hE : E = 4) (hc : ∀ k, R (w.drewN k)) :
    Calls Try.prog 15 #[.pointer (some ⟨g, 0, none⟩)] w fun e w' => e = .returned (.int .i64 E) ∧ R w' := by
  obtain ⟨v, hS, hown, hvg, hBg⟩ := h
  have hx := bt_at s a
  clear hown hvg
  obtain ⟨c0, c1, c2, c3, c4, c5, cf⟩ := hS.cells
  clear hS cf c2 c3 c4
  obtain ⟨b, hbb⟩ : ∃ b, b = bt s a := ⟨_, rfl⟩
  rw [← hbb] at hx hb hh hm hq hlt
  have h35 : (b == 35) = false := by simp [hh]
  clear hh
  have HM := mkHid hm
  clear hm
  subst hf
  have h34 : (b == 34) = false := by simp [hq]
  clear hq
  have HL := mkHid hlt
  clear hlt
  subst hE
  have HC := mkHid hc
  clear hc
  have HB := mkHid hb
  have HBB := mkHid hbb
  clear hb hbb
  go_enter Try.func15, Try.ntmps15
  go_wp2_with fail
  go_quiet (fail)
  go_wp2_with fail
  refine (blank_any _ _).mono ?_
  rintro e w' ⟨rfl, rfl⟩
  rw [HB.out]
  go_wp2_with fail
  refine (mark_any _ _).mono ?_
  rintro e w' ⟨rfl, rfl⟩
  rw [HM.out]
  go_wp2_with fail
  refine (letter_any _ _).mono ?_
  rintro e w' ⟨rfl, rfl⟩
  rw [HL.out]
  go_wp2_with fail
  go_ret
  exact ⟨rfl, HC.out _⟩
end Go.Proofs.Ytpolmnemknehaaa
