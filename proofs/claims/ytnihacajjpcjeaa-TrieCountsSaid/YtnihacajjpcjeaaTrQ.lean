/- Tries: Put. -/
import Derived.Test.YtnihacajjpcjeaaTrP
import Derived.Test.YtnihacajjpcjeaaPx2
import Derived.Test.YtnihacajjpcjeaaPx6
namespace Go.Proofs.Ytnihacajjpcjeaa
open Go.RowKit Go.Proofs.Ytnihacajjpcjeaa.P Go.Proofs.YtnihacajjpcjeaaW.PrintWords Go.Proofs.YtnihacajjpcjeaaW.PrintLast Go.Proofs.YtnihacajjpcjeaaW.PrintMore
set_option linter.unusedVariables false
set_option linter.unusedSimpArgs false

/-- where the pointer to the i-th node on the way of an address stands -/
def slotA (bt : Nat) (blk : Way → Nat) (a : Int) : Nat → Addr
  | 0 => ⟨bt, 0, none⟩
  | i + 1 => ⟨blk (wayA a i), (bitB a i).toNat, none⟩
theorem slotA_is {bt : Nat} {D : Way → Bool} {blk : Way → Nat} {a : Int} {i : Nat} (h : ∀ j, j < i → D (wayA a j) = true) : IsSlot bt D blk (wayA a i) (slotA bt blk a i) := by
  cases i with
  | zero => exact .inl ⟨rfl, rfl⟩
  | succ i => exact .inr ⟨wayA a i, bitB a i, rfl, h i (by omega), rfl⟩
theorem slotA_cell {V : Type} {K : TK V} {w : World} {bt : Nat} {n : Int} {D : Way → Bool} {m : Way → Option V} {blk : Way → Nat} {a : Int} {i : Nat} (hT : TrieAt K w bt n D m blk) (h : ∀ j, j < i → D (wayA a j) = true) : w.cell? (slotA bt blk a i) = some (ptrT D blk (wayA a i)) ∧ w.frozen? (slotA bt blk a i) = false ∧ ∃ b o, slotA bt blk a i = ⟨b, o, none⟩ := by
  cases i with
  | zero => exact ⟨hT.cell0, froz_blk hT.root 0, _, _, rfl⟩
  | succ i => exact ⟨hT.nodes.kid (h i (by omega)) _, froz_blk (hT.nodes.lies _ (h i (by omega))) _, _, _, rfl⟩
theorem Kb.alloc {own : Nat → Prop} {a w : World} (h : Kb own a w) (o : Obj) : Kb own a (w.alloc o) :=
  h.trans (Kb.of_below (Below.alloc (Below.refl _ w) (Nat.le_refl _) o))
theorem Kb.set {own : Nat → Prop} {a w : World} (h : Kb own a w) {s : Addr} (u : Value) (hb : own s.block ∨ a.heap.size ≤ s.block) : Kb own a (w.setCell s u) :=
  ⟨h.os, h.tape, h.output, by simp [World.setCell]; exact h.size, fun i hi ho => by
    rw [Below.heap_setCell _ _ _ _ (fun e => by
      rcases hb with h1 | h1
      · exact ho (e ▸ h1)
      · omega)]
    exact h.block i hi ho⟩
theorem Kb.step {own : Nat → Prop} {a b c : World} (h : Kb own a b) (k : Below b.heap.size b c) : Kb own a c := h.trans (Kb.of_below k)
theorem slotA_addB {bt : Nat} {blk : Way → Nat} {a : Int} {i : Nat} (b : Nat) : slotA bt (addB blk (wayA a i) b) a i = slotA bt blk a i := by
  cases i with
  | zero => rfl
  | succ i =>
    have : wayA a i ≠ wayA a (i + 1) := fun e => by have := congrArg List.length e; simp [wayA_len] at this
    show (⟨addB blk (wayA a (i + 1)) b (wayA a i), (bitB a i).toNat, none⟩ : Addr) = ⟨blk (wayA a i), (bitB a i).toNat, none⟩
    rw [show addB blk (wayA a (i + 1)) b (wayA a i) = blk (wayA a i) from if_neg this]
def ownN (own : Nat → Prop) (w w' : World) : Nat → Prop := fun b => own b ∨ (w.heap.size ≤ b ∧ b < w'.heap.size)

set_option maxHeartbeats 8000000 in
set_option maxRecDepth 100000 in
theorem put_not (w : World) (bt : Nat) (a b v : Int) (hM : addr_May.f a b = some false) :
    Calls Try.prog 33 #[.pointer (some ⟨bt, 0, none⟩), .agg #[.int .u32 a, .int .i64 b], .int .i64 v] w fun e w' => e = .returned (.tuple #[.bool false, .int .i64 1]) ∧ Below w.heap.size w w' := by
  have HM := mkHid hM
  have HB0 : Hid (Below w.heap.size w (w.alloc (.cells #[.int .u32 a, .int .i64 b] 34))) := Below.alloc (Below.refl _ w) (Nat.le_refl _) _
  clear hM
  go_enter Try.func33, Try.ntmps33
  go_wp2_with fail
  refine (addr_May.calls a b false _ HM.out).mono ?_
  rintro e w1 ⟨rfl, hb⟩
  have HB := mkHid (below_step HB0.out hb)
  clear hb
  go_wp2_with fail
  go_ret2
  exact ⟨rfl, HB.out⟩
set_option maxHeartbeats 8000000 in
set_option maxRecDepth 100000 in
theorem put_nil (w : World) (a b v : Int) :
    Calls Try.prog 33 #[.pointer none, .agg #[.int .u32 a, .int .i64 b], .int .i64 v] w fun e w' => e = .returned (.tuple #[.bool false, .int .i64 1]) ∧ Below w.heap.size w w' := by
  have HB0 : Hid (Below w.heap.size w (w.alloc (.cells #[.int .u32 a, .int .i64 b] 34))) := Below.alloc (Below.refl _ w) (Nat.le_refl _) _
  go_enter Try.func33, Try.ntmps33
  go_wp2_with fail
  go_ret2
  exact ⟨rfl, HB0.out⟩

set_option maxHeartbeats 8000000 in
set_option maxRecDepth 100000 in
theorem put_calls (w : World) (bt : Nat) (own : Nat → Prop) (n : Int) (m : Way → Option Int) (hT : Tri kI w bt own n m) (a : Int) (N : Nat) (v : Int) (h0 : 0 ≤ a) (h1 : a < 4294967296) (b1 : N ≤ 32) (n0 : 0 ≤ n) (n1 : n < 1000000) (hM : addr_May.f a N = some true) (n' : Int) (hn' : n' = if (m (wayA a N)).isSome = true then n else n + 1) :
    Calls Try.prog 33 #[.pointer (some ⟨bt, 0, none⟩), .agg #[.int .u32 a, .int .i64 N], .int .i64 v] w fun e w' => e = .returned (.tuple #[.bool (m (wayA a N)).isSome, .int .i64 0]) ∧
      Tri kI w' bt (ownN own w w') n' (putM m (wayA a N) (some v)) ∧ Kb own w w' := by
  have HM := mkHid hM
  have HN' := mkHid hn'
  clear hn'
  have HB0 : Hid (Below w.heap.size w (w.alloc (.cells #[.int .u32 a, .int .i64 N] 34))) := Below.alloc (Below.refl _ w) (Nat.le_refl _) _
  obtain ⟨D0, blk0, g1, g2, g3, g4⟩ := hT
  have G1 := mkHid g1
  have G2 := mkHid g2
  have G3 : Hid (own bt ∧ bt < w.heap.size) := ⟨g3, blk_lt g1.root⟩
  have G4 : Hid (∀ π, D0 π = true → own (blk0 π) ∧ blk0 π < w.heap.size) := fun π hp => ⟨g4 π hp, g1.nodes.lt hp⟩
  have hx0 : (w.alloc (.cells #[.int .u32 a, .int .i64 N] 34)).cell? ⟨w.heap.size, 0, none⟩ = some (.int .u32 a) := by go_simp
  have hx1 : (w.alloc (.cells #[.int .u32 a, .int .i64 N] 34)).cell? ⟨w.heap.size, 1, none⟩ = some (.int .i64 N) := by go_simp
  clear hM g1 g2 g3 g4
  go_enter Try.func33, Try.ntmps33
  go_wp2_with fail
  refine (addr_May.calls a N true _ HM.out).mono ?_
  rintro e w1 ⟨rfl, hb⟩
  have HB1 := mkHid (below_step HB0.out hb)
  have hs : w.heap.size < w1.heap.size := by have := hb.size; simp at this; omega
  have q0 : w1.cell? ⟨w.heap.size, 0, none⟩ = some (.int .u32 a) := (hb.cell (by simp)).trans hx0
  have q1 : w1.cell? ⟨w.heap.size, 1, none⟩ = some (.int .i64 N) := (hb.cell (by simp)).trans hx1
  have HT1 := mkHid (G1.out.below HB1.out)
  clear hb hx0 hx1 G1
  go_wp2_with fail
  go_loopg [8, 9] N (fun kq v8 v9 wr => ∃ (i : Nat) (D : Way → Bool) (blk : Way → Nat), v9 = .int .i64 i ∧ i ≤ N ∧ v8 = .pointer (some (slotA bt blk a i)) ∧ i + kq = N ∧ wr.cell? ⟨w.heap.size, 0, none⟩ = some (.int .u32 a) ∧ wr.cell? ⟨w.heap.size, 1, none⟩ = some (.int .i64 N) ∧ w.heap.size < wr.heap.size ∧ Hid (TrieAt kI wr bt n D m blk) ∧ Hid (∀ j, j < i → D (wayA a j) = true) ∧ Hid (∀ π, D π = true → (∃ ρ, (m (π ++ ρ)).isSome = true) ∨ ∃ j, j ≤ N ∧ π = wayA a j) ∧ Hid (∀ π, D π = true → (own (blk π) ∧ blk π < w.heap.size) ∨ w.heap.size < blk π) ∧ Hid (Kb own w wr))
  case atStart => exact ⟨0, D0, blk0, rfl, by omega, rfl, by omega, q0, q1, hs, HT1.out, fun j hj => absurd hj (by omega), fun π hp => .inl (G2.out π hp), fun π hp => .inl (G4.out π hp), Kb.of_below HB1.out⟩
  case round =>
    clear q0 q1 hs HT1 HB1 HB0 G2 G4
    obtain ⟨i, D, blk, rfl, hi, rfl, hk, q0, q1, hs, HT, HJ, HG, HO, HK⟩ := hrel
    obtain ⟨c0, c1, b, o, hsl⟩ := slotA_cell HT.out HJ.out
    have HSL := mkHid hsl
    have hbo : Hid ((own b ∧ b < w.heap.size) ∨ w.heap.size < b) := by
      have hsl := HSL.out
      cases i with
      | zero => injection hsl with e1 _ _; rw [← e1]; exact .inl G3.out
      | succ i => injection hsl with e1 _ _; rw [← e1]; exact HO.out _ (HJ.out i (by omega))
    have hbs : b ≠ w.heap.size := by rcases hbo.out with h | h <;> omega
    rw [hsl] at c0 c1
    rw [hsl]
    clear hsl
    cases hD : D (wayA a i)
    case' true =>
      rw [ptrT_some hD] at c0
      go_upto_region 8 with fail
      obtain ⟨W, hW⟩ : ∃ W, W = wr := ⟨_, rfl⟩
      obtain ⟨D1, hD1⟩ : ∃ D1, D1 = D := ⟨_, rfl⟩
      obtain ⟨blk1, hblk1⟩ : ∃ blk1, blk1 = blk := ⟨_, rfl⟩
      have HT2 : Hid (TrieAt kI W bt n D1 m blk1) := by rw [hW, hD1, hblk1]; exact HT.out
      have HSL1 : Hid (slotA bt blk1 a i = ⟨b, o, none⟩) := by rw [hblk1]; exact HSL.out
      have HJ1 : Hid (∀ j, j < i + 1 → D1 (wayA a j) = true) := fun j hj => by
        rw [hD1]
        by_cases e : j = i
        · rw [e]; exact hD
        · exact HJ.out j (by omega)
      have HG1 : Hid (∀ π, D1 π = true → (∃ ρ, (m (π ++ ρ)).isSome = true) ∨ ∃ j, j ≤ N ∧ π = wayA a j) := by rw [hD1]; exact HG.out
      have HO1 : Hid (∀ π, D1 π = true → (own (blk1 π) ∧ blk1 π < w.heap.size) ∨ w.heap.size < blk1 π) := by rw [hD1, hblk1]; exact HO.out
      have HK1 : Hid (Kb own w W) := by rw [hW]; exact HK.out
      have q0' : W.cell? ⟨w.heap.size, 0, none⟩ = some (.int .u32 a) := by rw [hW]; exact q0
      have q1' : W.cell? ⟨w.heap.size, 1, none⟩ = some (.int .i64 N) := by rw [hW]; exact q1
      have hs' : w.heap.size < W.heap.size := by rw [hW]; exact hs
      have c0' : W.cell? ⟨b, o, none⟩ = some (.pointer (some ⟨blk1 (wayA a i), 0, none⟩)) := by rw [hW, hblk1]; exact c0
      rw [← hW]
      clear hW hD hD1 hblk1 HJ HSL HT c1 c0 HG HO HK q0 q1 hs
    case' false =>
      rw [ptrT_none hD] at c0
      have HG0 := mkHid (HT.out.grow hD (by
        cases i with
        | zero => exact .inl rfl
        | succ i => exact .inr ⟨wayA a i, bitB a i, rfl, HJ.out i (by omega)⟩))
      have hbw : b < wr.heap.size := World.block_lt_of_cell? _ _ c0
      have hba : Hid (Below wr.heap.size wr (wr.alloc (.cells #[.pointer none, .pointer none, .bool false, .int .i64 0] 84))) := Below.alloc (Below.refl _ wr) (Nat.le_refl _) _
      have c2 : (wr.alloc (.cells #[.pointer none, .pointer none, .bool false, .int .i64 0] 84)).cell? ⟨b, o, none⟩ = some (.pointer none) := (hba.out.cell hbw).trans c0
      have c3 : (wr.alloc (.cells #[.pointer none, .pointer none, .bool false, .int .i64 0] 84)).frozen? ⟨b, o, none⟩ = false := (hba.out.frozen hbw).trans c1
      go_upto_region 8 with fail
      obtain ⟨W, hW⟩ : ∃ W, W = (wr.alloc (.cells #[.pointer none, .pointer none, .bool false, .int .i64 0] 84)).setCell ⟨b, o, none⟩ (.pointer (some ⟨wr.heap.size, 0, none⟩)) := ⟨_, rfl⟩
      obtain ⟨D1, hD1⟩ : ∃ D1, D1 = addD D (wayA a i) := ⟨_, rfl⟩
      obtain ⟨blk1, hblk1⟩ : ∃ blk1, blk1 = addB blk (wayA a i) wr.heap.size := ⟨_, rfl⟩
      have hcase : ∀ π, D1 π = true → π = wayA a i ∨ (D π = true ∧ π ≠ wayA a i) := fun π hp => by
        rw [hD1] at hp
        by_cases e : π = wayA a i
        · exact .inl e
        · exact .inr ⟨by unfold addD at hp; simpa [e] using hp, e⟩
      have hself : blk1 (wayA a i) = wr.heap.size := by rw [hblk1]; exact if_pos rfl
      have hother : ∀ π, π ≠ wayA a i → blk1 π = blk π := fun π hp => by rw [hblk1]; exact if_neg hp
      have HSL1 : Hid (slotA bt blk1 a i = ⟨b, o, none⟩) := by rw [hblk1]; exact (slotA_addB _).trans HSL.out
      have HJ1 : Hid (∀ j, j < i + 1 → D1 (wayA a j) = true) := fun j hj => by
        rw [hD1]
        by_cases e : j = i
        · rw [e]; exact addD_self _ _
        · exact addD_of (HJ.out j (by omega))
      have hisl : IsSlot bt D1 blk1 (wayA a i) ⟨b, o, none⟩ := by rw [← HSL1.out]; exact slotA_is (fun j hj => HJ1.out j (by omega))
      have hpt : ptrT D1 blk1 (wayA a i) = .pointer (some ⟨wr.heap.size, 0, none⟩) := by rw [ptrT_some (HJ1.out i (by omega)), hself]
      have HT2 : Hid (TrieAt kI W bt n D1 m blk1) := by
        have h := HG0.out
        rw [← hD1, ← hblk1] at h
        have h2 := h.set hisl
        rw [hpt] at h2
        rw [hW]; exact h2
      have HG1 : Hid (∀ π, D1 π = true → (∃ ρ, (m (π ++ ρ)).isSome = true) ∨ ∃ j, j ≤ N ∧ π = wayA a j) := fun π hp => by
        rcases hcase π hp with e | ⟨h, _⟩
        · exact .inr ⟨i, hi, e⟩
        · exact HG.out π h
      have HO1 : Hid (∀ π, D1 π = true → (own (blk1 π) ∧ blk1 π < w.heap.size) ∨ w.heap.size < blk1 π) := fun π hp => by
        rcases hcase π hp with e | ⟨h, e⟩
        · rw [e, hself]; exact .inr hs
        · rw [hother π e]; exact HO.out π h
      have HK1 : Hid (Kb own w W) := by
        rw [hW]
        exact (HK.out.alloc _).set _ (hbo.out.elim (fun h => .inl h.1) (fun h => .inr (Nat.le_of_lt h)))
      have q0' : W.cell? ⟨w.heap.size, 0, none⟩ = some (.int .u32 a) := by
        rw [hW, World.cell?_setCell_other _ _ _ _ (fun e => hbs (congrArg Addr.block e))]
        exact (hba.out.cell hs).trans q0
      have q1' : W.cell? ⟨w.heap.size, 1, none⟩ = some (.int .i64 N) := by
        rw [hW, World.cell?_setCell_other _ _ _ _ (fun e => hbs (congrArg Addr.block e))]
        exact (hba.out.cell hs).trans q1
      have hs' : w.heap.size < W.heap.size := by rw [hW]; simp [World.setCell]; omega
      have c0' : W.cell? ⟨b, o, none⟩ = some (.pointer (some ⟨blk1 (wayA a i), 0, none⟩)) := by
        rw [hself, hW]
        exact World.cell?_setCell_same _ _ _ c2
      rw [← World.setCell_alloc_past _ _ _ _ hbw, ← hW]
      clear hW hD1 hblk1 hcase hself hother hisl hpt c0 c1 c2 c3 hba HG0 HJ HSL HT HG HO HK q0 q1 hs hbw hD
    all_goals
      clear hbo hbs
      have hDi : D1 (wayA a i) = true := HJ1.out i (by omega)
      by_cases hin : i = N
      · subst hin
        obtain ⟨g, hg⟩ : ∃ g, g = blk1 (wayA a i) := ⟨_, rfl⟩
        have c2 : W.cell? ⟨g, 2, none⟩ = some (.bool (m (wayA a i)).isSome) := by rw [hg]; exact HT2.out.nodes.is hDi
        have c3 : W.cell? ⟨g, 3, none⟩ = some (.int .i64 ((m (wayA a i)).getD 0)) := by rw [hg]; exact HT2.out.nodes.val hDi
        have f2 : W.frozen? ⟨g, 2, none⟩ = false := by rw [hg]; exact froz_blk (HT2.out.nodes.lies _ hDi) _
        have f3 : W.frozen? ⟨g, 3, none⟩ = false := by rw [hg]; exact froz_blk (HT2.out.nodes.lies _ hDi) _
        have HT3 : Hid (TrieAt kI ((W.setCell ⟨g, 2, none⟩ (.bool true)).setCell ⟨g, 3, none⟩ (.int .i64 v)) bt n D1 (putM m (wayA a i) (some v)) blk1) := by rw [hg]; exact HT2.out.write hDi (some v)
        have hog : Hid (own g ∨ w.heap.size ≤ g) := by rw [hg]; exact (HO1.out _ hDi).elim (fun h => .inl h.1) (fun h => .inr (Nat.le_of_lt h))
        have HK3 : Hid (Kb own w ((W.setCell ⟨g, 2, none⟩ (.bool true)).setCell ⟨g, 3, none⟩ (.int .i64 v))) := (HK1.out.set _ hog.out).set _ hog.out
        have d1 := HT3.out.cell1
        have e1 : ((W.setCell ⟨g, 2, none⟩ (.bool true)).setCell ⟨g, 3, none⟩ (.int .i64 v)).frozen? ⟨bt, 1, none⟩ = false := froz_blk HT3.out.root 1
        have HGG : Hid (∀ π, D1 π = true → ∃ ρ, (putM m (wayA a i) (some v) (π ++ ρ)).isSome = true) := fun π hp => by
          have hw : ∀ j, j ≤ i → ∃ ρ, (putM m (wayA a i) (some v) (wayA a j ++ ρ)).isSome = true := fun j hj => by
            obtain ⟨ρ, hρ⟩ := wayA_split a hj
            exact ⟨ρ, by rw [← hρ, putM_self]; rfl⟩
          rcases HG1.out π hp with ⟨ρ, hr⟩ | ⟨j, hj, rfl⟩
          · by_cases e : π ++ ρ = wayA a i
            · exact ⟨ρ, by rw [e, putM_self]; rfl⟩
            · exact ⟨ρ, by rw [putM_ne e]; exact hr⟩
          · exact hw j hj
        have HLT : Hid (∀ π, D1 π = true → ownN own w ((W.setCell ⟨g, 2, none⟩ (.bool true)).setCell ⟨g, 3, none⟩ (.int .i64 v)) (blk1 π)) := fun π hp => by
          rcases HO1.out π hp with h | h
          · exact .inl h.1
          · exact .inr ⟨Nat.le_of_lt h, HT3.out.nodes.lt hp⟩
        have hwn : IntKind.i64.wrap (n + 1) = n + 1 := IntWalk.i64_in _ (by omega)
        rw [← hg] at c0'
        clear hDi HJ1 HSL1 HG1 HO1 HK1 hg HT2
        cases hm : (m (wayA a i)).isSome with
        | true =>
          rw [hm] at c2
          go_wp2_with fail
          go_ret2
          exact ⟨by rw [hm]; rfl, ⟨D1, blk1, by rw [show n' = n by have := HN'.out; rw [if_pos hm] at this; exact this]; exact HT3.out, HGG.out, .inl G3.out.1, HLT.out⟩, HK3.out⟩
        | false =>
          rw [hm] at c2
          go_wp2_with fail
          go_ret2
          exact ⟨by rw [hm]; rfl, ⟨D1, blk1, by rw [show n' = n + 1 by have := HN'.out; rw [if_neg (by rw [hm]; simp)] at this; exact this]; exact HT3.out.count (n + 1), HGG.out, .inl G3.out.1, fun π hp => by
            rcases HLT.out π hp with h | ⟨h, h2⟩
            · exact .inl h
            · exact .inr ⟨h, by simpa [World.setCell] using h2⟩⟩, HK3.out.set _ (.inl G3.out.1)⟩
      · have hk0 : W.cell? ⟨blk1 (wayA a i), 0, none⟩ = some (ptrT D1 blk1 (wayA a i ++ [false])) := HT2.out.nodes.kid hDi false
        have hk1 : W.cell? ⟨blk1 (wayA a i), 1, none⟩ = some (ptrT D1 blk1 (wayA a i ++ [true])) := HT2.out.nodes.kid hDi true
        have hbit : Hid (trie_bit.f a (i : Int) = some ((bitB a i).toNat : Int)) := tbit_ev a i h0 h1 (by omega)
        have hne : decide ((i : Int) = (N : Int)) = false := decide_eq_false (by omega)
        have hne' : ((i : Int) == (N : Int)) = false := beq_eq_false_iff_ne.mpr (by omega)
        clear hDi HSL1
        cases hB : bitB a i with
        | false =>
          rw [hB] at hbit
          go_upto_region 9 with fail
          go_quiet ((first | (go_at_call 45; (with_reducible refine (trie_bit.calls a i ((false.toNat : Nat) : Int) _ hbit.out).mono ?_); rintro e w' ⟨rfl, ⟨nd, rfl⟩⟩; (try first | exact ⟨rfl, _, World.drewN_drewN _ _ _⟩))))
          go_wp2_with fail
          go_roundg (gk - 1)
          case measure => omega
          case rel => exact ⟨i + 1, D1, blk1, rfl, by omega, by rw [show slotA bt blk1 a (i + 1) = ⟨blk1 (wayA a i), (bitB a i).toNat, none⟩ from rfl, hB]; rfl, by omega, q0', q1', hs', HT2.out.drewN _, HJ1.out, HG1.out, HO1.out, HK1.out.drewN _⟩
        | true =>
          rw [hB] at hbit
          go_upto_region 9 with fail
          go_quiet ((first | (go_at_call 45; (with_reducible refine (trie_bit.calls a i ((true.toNat : Nat) : Int) _ hbit.out).mono ?_); rintro e w' ⟨rfl, ⟨nd, rfl⟩⟩; (try first | exact ⟨rfl, _, World.drewN_drewN _ _ _⟩))))
          go_wp2_with fail
          go_roundg (gk - 1)
          case measure => omega
          case rel => exact ⟨i + 1, D1, blk1, rfl, by omega, by rw [show slotA bt blk1 a (i + 1) = ⟨blk1 (wayA a i), (bitB a i).toNat, none⟩ from rfl, hB]; rfl, by omega, q0', q1', hs', HT2.out.drewN _, HJ1.out, HG1.out, HO1.out, HK1.out.drewN _⟩
end Go.Proofs.Ytnihacajjpcjeaa
