/- Tries: prune, Drop. -/
import Derived.Test.YtnihacajjpcjeaaTrQ
import Derived.Test.YtnihacajjpcjeaaPx6
namespace Go.Proofs.Ytnihacajjpcjeaa
open Go.RowKit Go.Proofs.Ytnihacajjpcjeaa.P Go.Proofs.YtnihacajjpcjeaaW.PrintWords Go.Proofs.YtnihacajjpcjeaaW.PrintLast Go.Proofs.YtnihacajjpcjeaaW.PrintMore
set_option linter.unusedVariables false
set_option linter.unusedSimpArgs false

theorem info73 : (Try.prog.info? 73).map (fun i => (i.zero, i.size, i.bytes)) = some (some (.pointer none), 1, 8) := by kernel_rfl
theorem cells73 : Try.prog.cellsOf 73 = 1 := by kernel_rfl
theorem eq73 (w : World) (d : Nat) (x : Option Addr) : (Op.equalIn (d + 1) 73 (.pointer x) (.pointer none)).run Try.prog w = .ok x.isNone w := by
  cases x <;> simp [Op.equalIn]
theorem eq82 (w : World) (p q : Option Addr) : (Op.equalIn 10000 82 (.agg #[.pointer p, .pointer q]) (.agg #[.pointer none, .pointer none])).run Try.prog w = .ok (p.isNone && q.isNone) w := by
  obtain ⟨i, hi, _, _, _⟩ := info_parts info73
  rw [show (10000 : Nat) = 9999 + 1 from rfl, run_equalIn_array w 9999 _ _ Try.underlying82 hi, cells73]
  have e := eq73 w 9998
  cases p <;> cases q <;> (simp [Op.eqItems, List.range, List.range.loop]; try go_simp) <;> simp [e]
theorem ptrT_ptr (D : Way → Bool) (blk : Way → Nat) (π : Way) : ∃ u, ptrT D blk π = .pointer u := by
  unfold ptrT; split <;> exact ⟨_, rfl⟩
theorem TrieAt.drew {V : Type} {K : TK V} {w : World} {bt : Nat} {n : Int} {D : Way → Bool} {m : Way → Option V} {blk : Way → Nat} (h : TrieAt K w bt n D m blk) : TrieAt K w.drew bt n D m blk := ⟨⟨h.nodes.lies, h.nodes.inj, h.nodes.up, h.nodes.sup⟩, h.root, h.ne⟩
set_option maxHeartbeats 8000000 in
set_option maxRecDepth 100000 in
theorem prune_calls (bt : Nat) (own : Nat → Prop) (n : Int) (m : Way → Option Int) (blk : Way → Nat) (a : Int) (N : Nat) (h0 : 0 ≤ a) (h1 : a < 4294967296) (b1 : N ≤ 32) (hob : own bt) :
    ∀ (d i : Nat), i + d = N → ∀ (w : World) (D : Way → Bool), TrieAt kI w bt n D m blk → D (wayA a N) = true → (∀ π, D π = true → own (blk π)) → (∀ b, own b → b < w.heap.size) → (∀ π, D π = true → (∃ ρ, (m (π ++ ρ)).isSome = true) ∨ ∃ j, j ≤ N ∧ π = wayA a j) →
    Calls Try.prog 43 #[.pointer (some ⟨blk (wayA a i), 0, none⟩), .agg #[.int .u32 a, .int .i64 N], .int .i64 i] w fun e w' => ∃ D' : Way → Bool, e = .returned (ptrT D' blk (wayA a i)) ∧ TrieBut kI w' bt n D' m blk (wayA a i) (ptrT D blk (wayA a i)) ∧ (∀ π, D' π = true → D π = true) ∧ (∀ π, D' π = true → (∃ ρ, (m (π ++ ρ)).isSome = true) ∨ ∃ j, j < i ∧ π = wayA a j) ∧ (∀ j, j < i → D' (wayA a j) = true) ∧ Kb own w w' := by
  intro d
  induction d with
  | zero =>
    intro i hi w D hT hN hO hS hG
    have HD : Hid (∀ j, j ≤ N → D (wayA a j) = true) := fun j hj => by
      obtain ⟨ρ, hρ⟩ := wayA_split a hj
      rw [hρ] at hN; exact hT.nodes.ups ρ _ hN
    have c1 : decide ((i : Int) < (N : Int)) = false := decide_eq_false (by omega)
    go_enter Try.func43, Try.ntmps43
    go_upto_region 4 with fail
    all_goals
      have HB0 : Hid (Below w.heap.size w (w.alloc (.cells #[.int .u32 a, .int .i64 N] 34))) := Below.alloc (Below.refl _ w) (Nat.le_refl _) _
      obtain ⟨W2, hW2⟩ : ∃ W2, W2 = w.alloc (.cells #[.int .u32 a, .int .i64 N] 34) := ⟨_, rfl⟩
      have HT2 : Hid (TrieAt kI W2 bt n D m blk) := by rw [hW2]; exact hT.below HB0.out
      have K5 : Hid (Kb own w W2) := by rw [hW2]; exact Kb.of_below HB0.out
      obtain ⟨D1, hD1⟩ : ∃ D1, D1 = D := ⟨_, rfl⟩
      have K2 : Hid (∀ π, D1 π = true → D π = true) := by rw [hD1]; exact fun _ h => h
      have K3 : Hid (∀ π, D1 π = true → (∃ ρ, (m (π ++ ρ)).isSome = true) ∨ ∃ j, j < i + 1 ∧ π = wayA a j) := fun π hp => by
        rw [hD1] at hp
        rcases hG π hp with h | ⟨j, hj, e⟩
        · exact .inl h
        · exact .inr ⟨j, by omega, e⟩
      have K4 : Hid (∀ j, j < i + 1 → D1 (wayA a j) = true) := fun j hj => by rw [hD1]; exact HD.out j (by omega)
      have hDx := K4.out i (by omega)
      rw [← hD1] at HT2
      rw [← hW2]
      clear hD1 hT hN hO hS hG HB0 hW2
      have hx := HT2.out.nodes.is hDx
      have hk0 : W2.cell? ⟨blk (wayA a i), 0, none⟩ = some (ptrT D1 blk (wayA a i ++ [false])) := HT2.out.nodes.kid hDx false
      have hk1 : W2.cell? ⟨blk (wayA a i), 1, none⟩ = some (ptrT D1 blk (wayA a i ++ [true])) := HT2.out.nodes.kid hDx true
      have hpx : Hid (ptrT D1 blk (wayA a i) = .pointer (some ⟨blk (wayA a i), 0, none⟩)) := ptrT_some hDx
      have hpu : Hid (ptrT D1 blk (wayA a i) = ptrT D blk (wayA a i)) := (ptrT_some hDx).trans (ptrT_some (HD.out i (by omega))).symm
      have hstay : Hid (∀ (hw : (∃ ρ, (m (wayA a i ++ ρ)).isSome = true)), ∃ D' : Way → Bool, .returned (.pointer (some ⟨blk (wayA a i), 0, none⟩)) = Ending.returned (ptrT D' blk (wayA a i)) ∧ TrieBut kI W2 bt n D' m blk (wayA a i) (ptrT D blk (wayA a i)) ∧ (∀ π, D' π = true → D π = true) ∧ (∀ π, D' π = true → (∃ ρ, (m (π ++ ρ)).isSome = true) ∨ ∃ j, j < i ∧ π = wayA a j) ∧ (∀ j, j < i → D' (wayA a j) = true) ∧ Kb own w W2) := fun hw =>
        ⟨D1, by rw [hpx.out], by rw [← hpu.out]; exact HT2.out.but _, K2.out, fun π hp => by
          rcases K3.out π hp with h | ⟨j, hj, rfl⟩
          · exact .inl h
          · by_cases e : j = i
            · subst e; exact .inl hw
            · exact .inr ⟨j, by omega, rfl⟩, fun j hj => K4.out j (by omega), K5.out⟩
      have hkid : Hid (∀ c, D1 (wayA a i ++ [c]) = true → ∃ ρ, (m (wayA a i ++ ρ)).isSome = true) := fun c hc => by
        rcases K3.out _ hc with ⟨ρ, h⟩ | ⟨j, hj, e⟩
        · exact ⟨c :: ρ, by simpa using h⟩
        · have := congrArg List.length e
          simp [wayA_len] at this; omega
      have hgone : Hid (m (wayA a i) = none → (∀ c, D1 (wayA a i ++ [c]) = false) → ∃ D' : Way → Bool, .returned (.pointer none) = Ending.returned (ptrT D' blk (wayA a i)) ∧ TrieBut kI W2 bt n D' m blk (wayA a i) (ptrT D blk (wayA a i)) ∧ (∀ π, D' π = true → D π = true) ∧ (∀ π, D' π = true → (∃ ρ, (m (π ++ ρ)).isSome = true) ∨ ∃ j, j < i ∧ π = wayA a j) ∧ (∀ j, j < i → D' (wayA a j) = true) ∧ Kb own w W2) := fun hm hc => by
        have hcase : ∀ ρ, delD D1 (wayA a i) ρ = true → D1 ρ = true ∧ ρ ≠ wayA a i := fun ρ hp => by unfold delD at hp; simpa using hp
        refine ⟨delD D1 (wayA a i), by rw [ptrT_none (by simp [delD])], by rw [← hpu.out]; exact HT2.out.lop hm hc, fun π hp => K2.out π (hcase π hp).1, fun π hp => ?_, fun j hj => ?_, K5.out⟩
        · rcases K3.out π (hcase π hp).1 with h | ⟨j, hj, rfl⟩
          · exact .inl h
          · by_cases e : j = i
            · subst e; exact absurd rfl (hcase _ hp).2
            · exact .inr ⟨j, by omega, rfl⟩
        · have h1 := K4.out j (by omega)
          have h2 : wayA a j ≠ wayA a i := fun e => by have := congrArg List.length e; simp [wayA_len] at this; omega
          simp [delD, h1, h2]
      clear hpx hpu K2 K3 K4 K5 hDx HT2
      cases hm : m (wayA a i) with
      | some v =>
        rw [hm] at hx
        have hx' : W2.cell? ⟨blk (wayA a i), 2, none⟩ = some (.bool true) := hx
        have hfin := mkHid (hstay.out ⟨[], by rw [List.append_nil, hm]; rfl⟩)
        clear hx hk0 hk1 hstay hkid hgone
        go_wp2_with fail
        go_ret
        exact hfin.out
      | none =>
        rw [hm] at hx
        have hx' : W2.cell? ⟨blk (wayA a i), 2, none⟩ = some (.bool false) := hx
        clear hx
        cases e0 : D1 (wayA a i ++ [false]) with
        | true =>
          rw [ptrT_some e0] at hk0
          have hfin := mkHid (hstay.out (hkid.out _ e0))
          obtain ⟨u1, hu1⟩ := ptrT_ptr D1 blk (wayA a i ++ [true])
          rw [hu1] at hk1
          have heq : (Op.equalIn 10000 82 (.agg #[.pointer (some ⟨blk (wayA a i ++ [false]), 0, none⟩), .pointer u1]) (.agg #[.pointer none, .pointer none])).run Try.prog W2 = .ok false W2 := eq82 W2 _ _
          clear hstay hkid hgone hu1
          go_wp2_with fail
          go_ret
          exact hfin.out
        | false =>
          rw [ptrT_none e0] at hk0
          cases e1 : D1 (wayA a i ++ [true]) with
          | true =>
            rw [ptrT_some e1] at hk1
            have hfin := mkHid (hstay.out (hkid.out _ e1))
            have heq : (Op.equalIn 10000 82 (.agg #[.pointer none, .pointer (some ⟨blk (wayA a i ++ [true]), 0, none⟩)]) (.agg #[.pointer none, .pointer none])).run Try.prog W2 = .ok false W2 := eq82 W2 _ _
            clear hstay hkid hgone
            go_wp2_with fail
            go_ret
            exact hfin.out
          | false =>
            rw [ptrT_none e1] at hk1
            have hfin := mkHid (hgone.out hm (fun c => by cases c <;> assumption))
            have heq : (Op.equalIn 10000 82 (.agg #[.pointer none, .pointer none]) (.agg #[.pointer none, .pointer none])).run Try.prog W2 = .ok true W2 := eq82 W2 _ _
            clear hstay hkid hgone
            go_wp2_with fail
            go_ret
            exact hfin.out
  | succ d ih =>
    intro i hi w D hT hN hO hS hG
    have hD : ∀ j, j ≤ N → D (wayA a j) = true := fun j hj => by
      obtain ⟨ρ, hρ⟩ := wayA_split a hj
      rw [hρ] at hN; exact hT.nodes.ups ρ _ hN
    have HB0 : Hid (Below w.heap.size w (w.alloc (.cells #[.int .u32 a, .int .i64 N] 34))) := Below.alloc (Below.refl _ w) (Nat.le_refl _) _
    have HT0 := mkHid (hT.below HB0.out)
    have c1 : decide ((i : Int) < (N : Int)) = true := decide_eq_true (by omega)
    have hbit : Hid (trie_bit.f a (i : Int) = some ((bitB a i).toNat : Int)) := tbit_ev a i h0 h1 (by omega)
    have hw : IntKind.i64.wrap ((i : Int) + 1) = (i : Int) + 1 := by rw [IntWalk.i64_in _ (by omega)]
    have hlt := hT.nodes.lt (hD i (by omega))
    cases hB : bitB a i with
    | false =>
      rw [hB] at hbit
      have hwi : wayA a (i + 1) = wayA a i ++ [false] := by rw [wayA, hB]
      have hk : (w.alloc (.cells #[.int .u32 a, .int .i64 N] 34)).cell? ⟨blk (wayA a i), 0, none⟩ = some (.pointer (some ⟨blk (wayA a (i + 1)), 0, none⟩)) := by
        have := HT0.out.nodes.kid (hD i (by omega)) false
        rw [← hwi, ptrT_some (hD (i + 1) (by omega))] at this
        exact this
      go_enter Try.func43, Try.ntmps43
      go_wp2_with ((first | (go_at_call 45; (with_reducible refine (trie_bit.calls a i ((false.toNat : Nat) : Int) _ hbit.out).mono ?_); rintro e w' ⟨rfl, ⟨nd, rfl⟩⟩; (try first | exact ⟨rfl, _, World.drewN_drewN _ _ _⟩))))
      obtain ⟨W, hW⟩ : ∃ W, W = (w.alloc (.cells #[.int .u32 a, .int .i64 N] 34)).drewN nd := ⟨_, rfl⟩
      have HTW : Hid (TrieAt kI W bt n D m blk) := by rw [hW]; exact HT0.out.drewN _
      have HBW : Hid (Below w.heap.size w W) := by rw [hW]; exact pw_below_drewN HB0.out _
      have p0 : W.cell? ⟨w.heap.size, 0, none⟩ = some (.int .u32 a) := by rw [hW]; go_simp
      have p1 : W.cell? ⟨w.heap.size, 1, none⟩ = some (.int .i64 N) := by rw [hW]; go_simp
      have hkW : W.cell? ⟨blk (wayA a i), 0, none⟩ = some (.pointer (some ⟨blk (wayA a (i + 1)), 0, none⟩)) := by rw [hW]; exact hk
      rw [← hW]
      clear hW hk HT0 HB0
      have hcall : Hid (Calls Try.prog 43 #[.pointer (some ⟨blk (wayA a (i + 1)), 0, none⟩), .agg #[.int .u32 a, .int .i64 N], .int .i64 ((i : Int) + 1)] W.drew fun e w1 => ∃ u, e = .returned (.pointer u) ∧ w1.cell? ⟨blk (wayA a i), 0, none⟩ = some (.pointer (some ⟨blk (wayA a (i + 1)), 0, none⟩)) ∧ w1.frozen? ⟨blk (wayA a i), 0, none⟩ = false ∧ w1.cell? ⟨w.heap.size, 0, none⟩ = some (.int .u32 a) ∧ w1.cell? ⟨w.heap.size, 1, none⟩ = some (.int .i64 N) ∧
          Hid (∃ D1 : Way → Bool, TrieAt kI (w1.setCell ⟨blk (wayA a i), 0, none⟩ (.pointer u)) bt n D1 m blk ∧ (∀ π, D1 π = true → D π = true) ∧ (∀ π, D1 π = true → (∃ ρ, (m (π ++ ρ)).isSome = true) ∨ ∃ j, j < i + 1 ∧ π = wayA a j) ∧ (∀ j, j < i + 1 → D1 (wayA a j) = true) ∧ Kb own W w1)) := by
        have hs1 : w.heap.size < W.heap.size := World.block_lt_of_cell? _ _ p0
        refine (ih (i + 1) (by omega) W.drew D HTW.out.drew hN hO (fun b hb => Nat.lt_of_lt_of_le (hS b hb) HBW.out.size) hG).mono ?_
        rintro e w1 ⟨D1, rfl, g1, g2, g3, g4, g5⟩
        obtain ⟨u, hu⟩ := ptrT_ptr D1 blk (wayA a (i + 1))
        have hno : ¬ own w.heap.size := fun h => absurd (hS _ h) (by omega)
        have hb1 : w1.heap[w.heap.size]? = W.heap[w.heap.size]? := g5.block _ hs1 hno
        refine ⟨u, by rw [hu], ?_, froz_blk (g1.lies _ (g4 i (by omega))) 0, ?_, ?_, D1, ?_, g2, g3, g4, ⟨g5.os, g5.tape, g5.output, g5.size, g5.block⟩⟩
        · rw [cell_blk (g1.lies _ (g4 i (by omega)))]
          show some (ptrU D1 blk _ _ (wayA a i ++ [false])) = _
          rw [← hwi, ptrU_eq, ptrT_some (hD (i + 1) (by omega))]
        · unfold World.cell? at p0 ⊢; rw [hb1]; exact p0
        · unfold World.cell? at p1 ⊢; rw [hb1]; exact p1
        · rw [← hu]; exact g1.set (.inr ⟨wayA a i, false, hwi, g4 i (by omega), rfl⟩)
      have HO := mkHid hO
      have HD := mkHid hD
      have HG := mkHid hG
      have HS := mkHid hS
      have HWI := mkHid hwi
      have hn : Hid (∀ o, (⟨blk (wayA a i), 0, none⟩ : Addr) ≠ ⟨w.heap.size, o, none⟩) := fun o e => absurd (congrArg Addr.block e) (by show blk (wayA a i) ≠ w.heap.size; omega)
      clear ih hD hO hG hS hN hwi hT
      go_region_with (first | (go_at_call 43; refine hcall.out.mono ?_; rintro e w1 ⟨u, rfl, d0, e0, b0, b1, h2⟩))
      all_goals
        have HT2e := h2.out
        have K6 : Hid (Kb own w W) := Kb.of_below HBW.out
        obtain ⟨W2, hW2⟩ : ∃ W2, W2 = w1.setCell ⟨blk (wayA a i), 0, none⟩ (.pointer u) := ⟨_, rfl⟩
        obtain ⟨D1, t1, t2, t3, t4, t5⟩ := HT2e
        have HT2 : Hid (TrieAt kI W2 bt n D1 m blk) := by rw [hW2]; exact t1
        have K2 := mkHid t2
        have K3 := mkHid t3
        have K4 := mkHid t4
        have hDx := K4.out i (by omega)
        have K5 : Hid (Kb own w W2) := by rw [hW2]; exact (K6.out.trans t5).set _ (.inl (HO.out _ (HD.out i (by omega))))
        rw [← hW2]
        clear hW2 t1 t2 t3 t4 t5 h2 K6 d0 e0 b0 b1 hcall hn HG HS HWI HTW HBW p0 p1 hkW
        have hx := HT2.out.nodes.is hDx
        have hk0 : W2.cell? ⟨blk (wayA a i), 0, none⟩ = some (ptrT D1 blk (wayA a i ++ [false])) := HT2.out.nodes.kid hDx false
        have hk1 : W2.cell? ⟨blk (wayA a i), 1, none⟩ = some (ptrT D1 blk (wayA a i ++ [true])) := HT2.out.nodes.kid hDx true
        have hpx : Hid (ptrT D1 blk (wayA a i) = .pointer (some ⟨blk (wayA a i), 0, none⟩)) := ptrT_some hDx
        have hpu : Hid (ptrT D1 blk (wayA a i) = ptrT D blk (wayA a i)) := (ptrT_some hDx).trans (ptrT_some (HD.out i (by omega))).symm
        have hstay : Hid (∀ (hw : (∃ ρ, (m (wayA a i ++ ρ)).isSome = true)), ∃ D' : Way → Bool, .returned (.pointer (some ⟨blk (wayA a i), 0, none⟩)) = Ending.returned (ptrT D' blk (wayA a i)) ∧ TrieBut kI W2 bt n D' m blk (wayA a i) (ptrT D blk (wayA a i)) ∧ (∀ π, D' π = true → D π = true) ∧ (∀ π, D' π = true → (∃ ρ, (m (π ++ ρ)).isSome = true) ∨ ∃ j, j < i ∧ π = wayA a j) ∧ (∀ j, j < i → D' (wayA a j) = true) ∧ Kb own w W2) := fun hw =>
          ⟨D1, by rw [hpx.out], by rw [← hpu.out]; exact HT2.out.but _, K2.out, fun π hp => by
            rcases K3.out π hp with h | ⟨j, hj, rfl⟩
            · exact .inl h
            · by_cases e : j = i
              · subst e; exact .inl hw
              · exact .inr ⟨j, by omega, rfl⟩, fun j hj => K4.out j (by omega), K5.out⟩
        have hkid : Hid (∀ c, D1 (wayA a i ++ [c]) = true → ∃ ρ, (m (wayA a i ++ ρ)).isSome = true) := fun c hc => by
          rcases K3.out _ hc with ⟨ρ, h⟩ | ⟨j, hj, e⟩
          · exact ⟨c :: ρ, by simpa using h⟩
          · have := congrArg List.length e
            simp [wayA_len] at this; omega
        have hgone : Hid (m (wayA a i) = none → (∀ c, D1 (wayA a i ++ [c]) = false) → ∃ D' : Way → Bool, .returned (.pointer none) = Ending.returned (ptrT D' blk (wayA a i)) ∧ TrieBut kI W2 bt n D' m blk (wayA a i) (ptrT D blk (wayA a i)) ∧ (∀ π, D' π = true → D π = true) ∧ (∀ π, D' π = true → (∃ ρ, (m (π ++ ρ)).isSome = true) ∨ ∃ j, j < i ∧ π = wayA a j) ∧ (∀ j, j < i → D' (wayA a j) = true) ∧ Kb own w W2) := fun hm hc => by
          have hcase : ∀ ρ, delD D1 (wayA a i) ρ = true → D1 ρ = true ∧ ρ ≠ wayA a i := fun ρ hp => by unfold delD at hp; simpa using hp
          refine ⟨delD D1 (wayA a i), by rw [ptrT_none (by simp [delD])], by rw [← hpu.out]; exact HT2.out.lop hm hc, fun π hp => K2.out π (hcase π hp).1, fun π hp => ?_, fun j hj => ?_, K5.out⟩
          · rcases K3.out π (hcase π hp).1 with h | ⟨j, hj, rfl⟩
            · exact .inl h
            · by_cases e : j = i
              · subst e; exact absurd rfl (hcase _ hp).2
              · exact .inr ⟨j, by omega, rfl⟩
          · have h1 := K4.out j (by omega)
            have h2 : wayA a j ≠ wayA a i := fun e => by have := congrArg List.length e; simp [wayA_len] at this; omega
            simp [delD, h1, h2]
        clear hpx hpu K2 K3 K4 K5 hDx HT2
        cases hm : m (wayA a i) with
        | some v =>
          rw [hm] at hx
          have hx' : W2.cell? ⟨blk (wayA a i), 2, none⟩ = some (.bool true) := hx
          have hfin := mkHid (hstay.out ⟨[], by rw [List.append_nil, hm]; rfl⟩)
          clear hx hk0 hk1 hstay hkid hgone
          go_wp2_with fail
          go_ret
          exact hfin.out
        | none =>
          rw [hm] at hx
          have hx' : W2.cell? ⟨blk (wayA a i), 2, none⟩ = some (.bool false) := hx
          clear hx
          cases e0 : D1 (wayA a i ++ [false]) with
          | true =>
            rw [ptrT_some e0] at hk0
            have hfin := mkHid (hstay.out (hkid.out _ e0))
            obtain ⟨u1, hu1⟩ := ptrT_ptr D1 blk (wayA a i ++ [true])
            rw [hu1] at hk1
            have heq : (Op.equalIn 10000 82 (.agg #[.pointer (some ⟨blk (wayA a i ++ [false]), 0, none⟩), .pointer u1]) (.agg #[.pointer none, .pointer none])).run Try.prog W2 = .ok false W2 := eq82 W2 _ _
            clear hstay hkid hgone hu1
            go_wp2_with fail
            go_ret
            exact hfin.out
          | false =>
            rw [ptrT_none e0] at hk0
            cases e1 : D1 (wayA a i ++ [true]) with
            | true =>
              rw [ptrT_some e1] at hk1
              have hfin := mkHid (hstay.out (hkid.out _ e1))
              have heq : (Op.equalIn 10000 82 (.agg #[.pointer none, .pointer (some ⟨blk (wayA a i ++ [true]), 0, none⟩)]) (.agg #[.pointer none, .pointer none])).run Try.prog W2 = .ok false W2 := eq82 W2 _ _
              clear hstay hkid hgone
              go_wp2_with fail
              go_ret
              exact hfin.out
            | false =>
              rw [ptrT_none e1] at hk1
              have hfin := mkHid (hgone.out hm (fun c => by cases c <;> assumption))
              have heq : (Op.equalIn 10000 82 (.agg #[.pointer none, .pointer none]) (.agg #[.pointer none, .pointer none])).run Try.prog W2 = .ok true W2 := eq82 W2 _ _
              clear hstay hkid hgone
              go_wp2_with fail
              go_ret
              exact hfin.out
    | true =>
      rw [hB] at hbit
      have hwi : wayA a (i + 1) = wayA a i ++ [true] := by rw [wayA, hB]
      have hk : (w.alloc (.cells #[.int .u32 a, .int .i64 N] 34)).cell? ⟨blk (wayA a i), 1, none⟩ = some (.pointer (some ⟨blk (wayA a (i + 1)), 0, none⟩)) := by
        have := HT0.out.nodes.kid (hD i (by omega)) true
        rw [← hwi, ptrT_some (hD (i + 1) (by omega))] at this
        exact this
      go_enter Try.func43, Try.ntmps43
      go_wp2_with ((first | (go_at_call 45; (with_reducible refine (trie_bit.calls a i ((true.toNat : Nat) : Int) _ hbit.out).mono ?_); rintro e w' ⟨rfl, ⟨nd, rfl⟩⟩; (try first | exact ⟨rfl, _, World.drewN_drewN _ _ _⟩))))
      obtain ⟨W, hW⟩ : ∃ W, W = (w.alloc (.cells #[.int .u32 a, .int .i64 N] 34)).drewN nd := ⟨_, rfl⟩
      have HTW : Hid (TrieAt kI W bt n D m blk) := by rw [hW]; exact HT0.out.drewN _
      have HBW : Hid (Below w.heap.size w W) := by rw [hW]; exact pw_below_drewN HB0.out _
      have p0 : W.cell? ⟨w.heap.size, 0, none⟩ = some (.int .u32 a) := by rw [hW]; go_simp
      have p1 : W.cell? ⟨w.heap.size, 1, none⟩ = some (.int .i64 N) := by rw [hW]; go_simp
      have hkW : W.cell? ⟨blk (wayA a i), 1, none⟩ = some (.pointer (some ⟨blk (wayA a (i + 1)), 0, none⟩)) := by rw [hW]; exact hk
      rw [← hW]
      clear hW hk HT0 HB0
      have hcall : Hid (Calls Try.prog 43 #[.pointer (some ⟨blk (wayA a (i + 1)), 0, none⟩), .agg #[.int .u32 a, .int .i64 N], .int .i64 ((i : Int) + 1)] W.drew fun e w1 => ∃ u, e = .returned (.pointer u) ∧ w1.cell? ⟨blk (wayA a i), 1, none⟩ = some (.pointer (some ⟨blk (wayA a (i + 1)), 0, none⟩)) ∧ w1.frozen? ⟨blk (wayA a i), 1, none⟩ = false ∧ w1.cell? ⟨w.heap.size, 0, none⟩ = some (.int .u32 a) ∧ w1.cell? ⟨w.heap.size, 1, none⟩ = some (.int .i64 N) ∧
          Hid (∃ D1 : Way → Bool, TrieAt kI (w1.setCell ⟨blk (wayA a i), 1, none⟩ (.pointer u)) bt n D1 m blk ∧ (∀ π, D1 π = true → D π = true) ∧ (∀ π, D1 π = true → (∃ ρ, (m (π ++ ρ)).isSome = true) ∨ ∃ j, j < i + 1 ∧ π = wayA a j) ∧ (∀ j, j < i + 1 → D1 (wayA a j) = true) ∧ Kb own W w1)) := by
        have hs1 : w.heap.size < W.heap.size := World.block_lt_of_cell? _ _ p0
        refine (ih (i + 1) (by omega) W.drew D HTW.out.drew hN hO (fun b hb => Nat.lt_of_lt_of_le (hS b hb) HBW.out.size) hG).mono ?_
        rintro e w1 ⟨D1, rfl, g1, g2, g3, g4, g5⟩
        obtain ⟨u, hu⟩ := ptrT_ptr D1 blk (wayA a (i + 1))
        have hno : ¬ own w.heap.size := fun h => absurd (hS _ h) (by omega)
        have hb1 : w1.heap[w.heap.size]? = W.heap[w.heap.size]? := g5.block _ hs1 hno
        refine ⟨u, by rw [hu], ?_, froz_blk (g1.lies _ (g4 i (by omega))) 1, ?_, ?_, D1, ?_, g2, g3, g4, ⟨g5.os, g5.tape, g5.output, g5.size, g5.block⟩⟩
        · rw [cell_blk (g1.lies _ (g4 i (by omega)))]
          show some (ptrU D1 blk _ _ (wayA a i ++ [true])) = _
          rw [← hwi, ptrU_eq, ptrT_some (hD (i + 1) (by omega))]
        · unfold World.cell? at p0 ⊢; rw [hb1]; exact p0
        · unfold World.cell? at p1 ⊢; rw [hb1]; exact p1
        · rw [← hu]; exact g1.set (.inr ⟨wayA a i, true, hwi, g4 i (by omega), rfl⟩)
      have HO := mkHid hO
      have HD := mkHid hD
      have HG := mkHid hG
      have HS := mkHid hS
      have HWI := mkHid hwi
      have hn : Hid (∀ o, (⟨blk (wayA a i), 1, none⟩ : Addr) ≠ ⟨w.heap.size, o, none⟩) := fun o e => absurd (congrArg Addr.block e) (by show blk (wayA a i) ≠ w.heap.size; omega)
      clear ih hD hO hG hS hN hwi hT
      go_region_with (first | (go_at_call 43; refine hcall.out.mono ?_; rintro e w1 ⟨u, rfl, d0, e0, b0, b1, h2⟩))
      all_goals
        have HT2e := h2.out
        have K6 : Hid (Kb own w W) := Kb.of_below HBW.out
        obtain ⟨W2, hW2⟩ : ∃ W2, W2 = w1.setCell ⟨blk (wayA a i), 1, none⟩ (.pointer u) := ⟨_, rfl⟩
        obtain ⟨D1, t1, t2, t3, t4, t5⟩ := HT2e
        have HT2 : Hid (TrieAt kI W2 bt n D1 m blk) := by rw [hW2]; exact t1
        have K2 := mkHid t2
        have K3 := mkHid t3
        have K4 := mkHid t4
        have hDx := K4.out i (by omega)
        have K5 : Hid (Kb own w W2) := by rw [hW2]; exact (K6.out.trans t5).set _ (.inl (HO.out _ (HD.out i (by omega))))
        rw [← hW2]
        clear hW2 t1 t2 t3 t4 t5 h2 K6 d0 e0 b0 b1 hcall hn HG HS HWI HTW HBW p0 p1 hkW
        have hx := HT2.out.nodes.is hDx
        have hk0 : W2.cell? ⟨blk (wayA a i), 0, none⟩ = some (ptrT D1 blk (wayA a i ++ [false])) := HT2.out.nodes.kid hDx false
        have hk1 : W2.cell? ⟨blk (wayA a i), 1, none⟩ = some (ptrT D1 blk (wayA a i ++ [true])) := HT2.out.nodes.kid hDx true
        have hpx : Hid (ptrT D1 blk (wayA a i) = .pointer (some ⟨blk (wayA a i), 0, none⟩)) := ptrT_some hDx
        have hpu : Hid (ptrT D1 blk (wayA a i) = ptrT D blk (wayA a i)) := (ptrT_some hDx).trans (ptrT_some (HD.out i (by omega))).symm
        have hstay : Hid (∀ (hw : (∃ ρ, (m (wayA a i ++ ρ)).isSome = true)), ∃ D' : Way → Bool, .returned (.pointer (some ⟨blk (wayA a i), 0, none⟩)) = Ending.returned (ptrT D' blk (wayA a i)) ∧ TrieBut kI W2 bt n D' m blk (wayA a i) (ptrT D blk (wayA a i)) ∧ (∀ π, D' π = true → D π = true) ∧ (∀ π, D' π = true → (∃ ρ, (m (π ++ ρ)).isSome = true) ∨ ∃ j, j < i ∧ π = wayA a j) ∧ (∀ j, j < i → D' (wayA a j) = true) ∧ Kb own w W2) := fun hw =>
          ⟨D1, by rw [hpx.out], by rw [← hpu.out]; exact HT2.out.but _, K2.out, fun π hp => by
            rcases K3.out π hp with h | ⟨j, hj, rfl⟩
            · exact .inl h
            · by_cases e : j = i
              · subst e; exact .inl hw
              · exact .inr ⟨j, by omega, rfl⟩, fun j hj => K4.out j (by omega), K5.out⟩
        have hkid : Hid (∀ c, D1 (wayA a i ++ [c]) = true → ∃ ρ, (m (wayA a i ++ ρ)).isSome = true) := fun c hc => by
          rcases K3.out _ hc with ⟨ρ, h⟩ | ⟨j, hj, e⟩
          · exact ⟨c :: ρ, by simpa using h⟩
          · have := congrArg List.length e
            simp [wayA_len] at this; omega
        have hgone : Hid (m (wayA a i) = none → (∀ c, D1 (wayA a i ++ [c]) = false) → ∃ D' : Way → Bool, .returned (.pointer none) = Ending.returned (ptrT D' blk (wayA a i)) ∧ TrieBut kI W2 bt n D' m blk (wayA a i) (ptrT D blk (wayA a i)) ∧ (∀ π, D' π = true → D π = true) ∧ (∀ π, D' π = true → (∃ ρ, (m (π ++ ρ)).isSome = true) ∨ ∃ j, j < i ∧ π = wayA a j) ∧ (∀ j, j < i → D' (wayA a j) = true) ∧ Kb own w W2) := fun hm hc => by
          have hcase : ∀ ρ, delD D1 (wayA a i) ρ = true → D1 ρ = true ∧ ρ ≠ wayA a i := fun ρ hp => by unfold delD at hp; simpa using hp
          refine ⟨delD D1 (wayA a i), by rw [ptrT_none (by simp [delD])], by rw [← hpu.out]; exact HT2.out.lop hm hc, fun π hp => K2.out π (hcase π hp).1, fun π hp => ?_, fun j hj => ?_, K5.out⟩
          · rcases K3.out π (hcase π hp).1 with h | ⟨j, hj, rfl⟩
            · exact .inl h
            · by_cases e : j = i
              · subst e; exact absurd rfl (hcase _ hp).2
              · exact .inr ⟨j, by omega, rfl⟩
          · have h1 := K4.out j (by omega)
            have h2 : wayA a j ≠ wayA a i := fun e => by have := congrArg List.length e; simp [wayA_len] at this; omega
            simp [delD, h1, h2]
        clear hpx hpu K2 K3 K4 K5 hDx HT2
        cases hm : m (wayA a i) with
        | some v =>
          rw [hm] at hx
          have hx' : W2.cell? ⟨blk (wayA a i), 2, none⟩ = some (.bool true) := hx
          have hfin := mkHid (hstay.out ⟨[], by rw [List.append_nil, hm]; rfl⟩)
          clear hx hk0 hk1 hstay hkid hgone
          go_wp2_with fail
          go_ret
          exact hfin.out
        | none =>
          rw [hm] at hx
          have hx' : W2.cell? ⟨blk (wayA a i), 2, none⟩ = some (.bool false) := hx
          clear hx
          cases e0 : D1 (wayA a i ++ [false]) with
          | true =>
            rw [ptrT_some e0] at hk0
            have hfin := mkHid (hstay.out (hkid.out _ e0))
            obtain ⟨u1, hu1⟩ := ptrT_ptr D1 blk (wayA a i ++ [true])
            rw [hu1] at hk1
            have heq : (Op.equalIn 10000 82 (.agg #[.pointer (some ⟨blk (wayA a i ++ [false]), 0, none⟩), .pointer u1]) (.agg #[.pointer none, .pointer none])).run Try.prog W2 = .ok false W2 := eq82 W2 _ _
            clear hstay hkid hgone hu1
            go_wp2_with fail
            go_ret
            exact hfin.out
          | false =>
            rw [ptrT_none e0] at hk0
            cases e1 : D1 (wayA a i ++ [true]) with
            | true =>
              rw [ptrT_some e1] at hk1
              have hfin := mkHid (hstay.out (hkid.out _ e1))
              have heq : (Op.equalIn 10000 82 (.agg #[.pointer none, .pointer (some ⟨blk (wayA a i ++ [true]), 0, none⟩)]) (.agg #[.pointer none, .pointer none])).run Try.prog W2 = .ok false W2 := eq82 W2 _ _
              clear hstay hkid hgone
              go_wp2_with fail
              go_ret
              exact hfin.out
            | false =>
              rw [ptrT_none e1] at hk1
              have hfin := mkHid (hgone.out hm (fun c => by cases c <;> assumption))
              have heq : (Op.equalIn 10000 82 (.agg #[.pointer none, .pointer none]) (.agg #[.pointer none, .pointer none])).run Try.prog W2 = .ok true W2 := eq82 W2 _ _
              clear hstay hkid hgone
              go_wp2_with fail
              go_ret
              exact hfin.out
end Go.Proofs.Ytnihacajjpcjeaa
