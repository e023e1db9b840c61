/- Tries: fold by counting. -/
import Derived.Test.YtnihacajjpcjeaaTrC
import Derived.Test.YtnihacajjpcjeaaPx0
namespace Go.Proofs.Ytnihacajjpcjeaa
open Go.RowKit Go.Proofs.Ytnihacajjpcjeaa.P Go.Proofs.YtnihacajjpcjeaaW.PrintWords Go.Proofs.YtnihacajjpcjeaaW.PrintLast Go.Proofs.YtnihacajjpcjeaaW.PrintMore
set_option linter.unusedVariables false
set_option linter.unusedSimpArgs false

theorem info3 : (Try.prog.info? 3).map (fun i => (i.zero, i.size, i.bytes)) = some (some (.int .i64 0), 1, 8) := by kernel_rfl
/-- what came of the kids, the first j -/
def kl (D : Way → Bool) (l : List S43) (π : Way) : Nat → List Int
  | 0 => []
  | 1 => if D (π ++ [false]) = true then [(cntT l (π ++ [false]) : Int)] else []
  | _ => (if D (π ++ [false]) = true then [(cntT l (π ++ [false]) : Int)] else []) ++ (if D (π ++ [true]) = true then [(cntT l (π ++ [true]) : Int)] else [])
theorem idx0 (u0 u1 : Option Addr) : ∀ w : World, (Instr.index 82 (.agg #[.pointer u0, .pointer u1]) (.int .i64 0)).run Try.prog w = .ok (.pointer u0) w := fun _ => by kernel_rfl
theorem idx1 (u0 u1 : Option Addr) : ∀ w : World, (Instr.index 82 (.agg #[.pointer u0, .pointer u1]) (.int .i64 1)).run Try.prog w = .ok (.pointer u1) w := fun _ => by kernel_rfl
set_option maxHeartbeats 8000000 in
set_option maxRecDepth 100000 in
theorem fold_calls (bt : Nat) (n : Int) (D : Way → Bool) (m : Way → Option Int) (blk : Way → Nat) (l : List S43) (hR : Rel m l) (hG : ∀ π, D π = true → ∃ ρ, (m (π ++ ρ)).isSome = true) (hl : l.length ≤ 100) :
    ∀ (d : Nat) (π : Way), π.length + d = 33 → D π = true → ∀ w : World, TrieAt kI w bt n D m blk →
    Calls Try.prog 41 #[.pointer (some ⟨blk π, 0, none⟩), .func (.func 15) #[] #[]] w fun e w' => e = .returned (.int .i64 (cntT l π : Int)) ∧ Below w.heap.size w w' := by
  have HRel := mkHid hR
  have HGG := mkHid hG
  clear hR hG
  intro d
  induction d with
  | zero => intro π hπ hD w hT; exact absurd (D_len HRel.out HGG.out hD) (by omega)
  | succ d ih =>
    intro π hπ hD w hT
    have HT0 := mkHid hT
    have hc0 : w.cell? ⟨blk π, 0, none⟩ = some (ptrT D blk (π ++ [false])) := hT.nodes.kid hD false
    have hc1 : w.cell? ⟨blk π, 1, none⟩ = some (ptrT D blk (π ++ [true])) := hT.nodes.kid hD true
    obtain ⟨u0, hu0⟩ := ptrT_ptr D blk (π ++ [false])
    obtain ⟨u1, hu1⟩ := ptrT_ptr D blk (π ++ [true])
    have HU0 := mkHid hu0
    have HU1 := mkHid hu1
    rw [hu0] at hc0
    rw [hu1] at hc1
    clear hT hu0 hu1
    go_enter Try.func41, Try.ntmps41
    go_wp2_with fail
    go_loopg [5, 7, 12] 2 (fun kq v5 v7 v12 wr => ∃ (j : Nat) (A : Option Addr) (c ln : Nat), v12 = .int .i64 j ∧ j ≤ 2 ∧ j + kq = 2 ∧ v5 = .slice A ln c ∧ Hid (ln = (kl D l π j).length ∧ ln ≤ j) ∧ Hid (Kd.R (Kd.int .i64) 3 wr w.heap.size (fun _ => True) (.slice A ln c) (kl D l π j)) ∧ Hid (Below w.heap.size w wr))
    case atStart => exact ⟨0, none, 0, 0, rfl, by omega, by omega, rfl, ⟨rfl, by omega⟩, Kd.R_nil _ _ _ _ _, Below.refl _ _⟩
    case round =>
      obtain ⟨j, A, c, ln, rfl, hj, hk, rfl, HLN, HR, HB⟩ := hrel
      have hjc : j = 0 ∨ j = 1 ∨ j = 2 := by omega
      rcases hjc with rfl | rfl | rfl
      · -- kid 0
        have hbr : (0 : Nat) = 0 := rfl
        cases hDk : D (π ++ [false]) with
        | false =>
          have hkk : kl D l π 1 = kl D l π 0 := by unfold kl; simp [hDk]
          have hu : u0 = none := by have := HU0.out; rw [ptrT_none hDk] at this; injection this with this; exact this.symm
          subst hu
          have xx := idx0
          go_wp2_with fail
          go_roundg (1)
          case measure => omega
          case rel => exact ⟨1, A, c, ln, rfl, by omega, by omega, rfl, ⟨by rw [hkk]; exact HLN.out.1, by have := HLN.out.2; omega⟩, by rw [hkk]; exact HR.out, HB.out⟩
        | true =>
          have hkk : kl D l π 1 = kl D l π 0 ++ [(cntT l (π ++ [false]) : Int)] := by unfold kl; simp [hDk]
          have hu : u0 = some ⟨blk (π ++ [false]), 0, none⟩ := by have := HU0.out; rw [ptrT_some hDk] at this; injection this with this; exact this.symm
          subst hu
          have xx := idx0
          go_wp2_with fail
          refine (ih (π ++ [false]) (by rw [List.length_append]; simp; omega) hDk _ (HT0.out.below HB.out)).mono ?_
          rintro e w5 ⟨rfl, hb5⟩
          have HR5 := mkHid (Kd.R_below HR.out hb5)
          have HB5 : Hid (Below w.heap.size w w5) := below_step HB.out hb5
          clear hb5
          go_wp2_with (at_builtin; refine Kd.R_append (Kd.int .i64) (w0 := w) w.heap.size ?a1 (.tmp 17) (.tmp 21) 37 3 (.int .i64 0) 8 ?a2 ?a3 ?a4 ?a5 ?a6 ?a7 (.slice A ln c) (kl D l π 0) (cntT l (π ++ [false]) : Int) [.int .i64 (cntT l (π ++ [false]) : Int)] (fun _ => True) (fun _ => False) ?a8 ?a9 ?aP ?aE ?aF ?aO ?aB ?aS ?aL ?_; (case a1 => rfl); (case a2 => rfl); (case a3 => exact Try.underlying37); (case a4 => exact info3); (case a5 => rfl); (case a6 => decide); (case a7 => omega); (case a8 => rfl); (case a9 => rfl); (case aP => rfl); (case aE => exact fun _ h => h.elim); (case aF => exact fun _ _ => trivial); (case aO => exact HR5.out); (case aB => exact HB5.out); (case aS => exact HB5.out.size); (case aL => have := HLN.out; omega); intro v1 w6 hR6 hB6 _ _; obtain ⟨A4, c4, h4⟩ := Kd.R_slice hR6; obtain ⟨n4, hn4⟩ : ∃ n4 : Nat, n4 = (kl D l π 0 ++ [(cntT l (π ++ [false]) : Int)]).length := ⟨_, rfl⟩; rw [← hn4] at h4; subst h4; have HN4 := mkHid hn4; clear hn4; have HR6 := mkHid hR6; have HB6 := mkHid hB6; clear hR6 hB6)
          go_roundg (1)
          case measure => omega
          case rel => exact ⟨1, A4, c4, n4, rfl, by omega, by omega, rfl, ⟨by rw [hkk]; exact HN4.out, by have g1 := HN4.out; have g2 := HLN.out; rw [List.length_append] at g1; simp at g1; omega⟩, by rw [hkk]; exact HR6.out, HB6.out⟩
      · -- kid 1
        have hbr : (1 : Nat) = 1 := rfl
        cases hDk : D (π ++ [true]) with
        | false =>
          have hkk : kl D l π 2 = kl D l π 1 := by unfold kl; simp [hDk]
          have hu : u1 = none := by have := HU1.out; rw [ptrT_none hDk] at this; injection this with this; exact this.symm
          subst hu
          have xx := idx1
          go_wp2_with fail
          go_roundg (0)
          case measure => omega
          case rel => exact ⟨2, A, c, ln, rfl, by omega, by omega, rfl, ⟨by rw [hkk]; exact HLN.out.1, by have := HLN.out.2; omega⟩, by rw [hkk]; exact HR.out, HB.out⟩
        | true =>
          have hkk : kl D l π 2 = kl D l π 1 ++ [(cntT l (π ++ [true]) : Int)] := by unfold kl; simp [hDk]
          have hu : u1 = some ⟨blk (π ++ [true]), 0, none⟩ := by have := HU1.out; rw [ptrT_some hDk] at this; injection this with this; exact this.symm
          subst hu
          have xx := idx1
          go_wp2_with fail
          refine (ih (π ++ [true]) (by rw [List.length_append]; simp; omega) hDk _ (HT0.out.below HB.out)).mono ?_
          rintro e w5 ⟨rfl, hb5⟩
          have HR5 := mkHid (Kd.R_below HR.out hb5)
          have HB5 : Hid (Below w.heap.size w w5) := below_step HB.out hb5
          clear hb5
          go_wp2_with (at_builtin; refine Kd.R_append (Kd.int .i64) (w0 := w) w.heap.size ?a1 (.tmp 17) (.tmp 21) 37 3 (.int .i64 0) 8 ?a2 ?a3 ?a4 ?a5 ?a6 ?a7 (.slice A ln c) (kl D l π 1) (cntT l (π ++ [true]) : Int) [.int .i64 (cntT l (π ++ [true]) : Int)] (fun _ => True) (fun _ => False) ?a8 ?a9 ?aP ?aE ?aF ?aO ?aB ?aS ?aL ?_; (case a1 => rfl); (case a2 => rfl); (case a3 => exact Try.underlying37); (case a4 => exact info3); (case a5 => rfl); (case a6 => decide); (case a7 => omega); (case a8 => rfl); (case a9 => rfl); (case aP => rfl); (case aE => exact fun _ h => h.elim); (case aF => exact fun _ _ => trivial); (case aO => exact HR5.out); (case aB => exact HB5.out); (case aS => exact HB5.out.size); (case aL => have := HLN.out; omega); intro v1 w6 hR6 hB6 _ _; obtain ⟨A4, c4, h4⟩ := Kd.R_slice hR6; obtain ⟨n4, hn4⟩ : ∃ n4 : Nat, n4 = (kl D l π 1 ++ [(cntT l (π ++ [true]) : Int)]).length := ⟨_, rfl⟩; rw [← hn4] at h4; subst h4; have HN4 := mkHid hn4; clear hn4; have HR6 := mkHid hR6; have HB6 := mkHid hB6; clear hR6 hB6)
          go_roundg (0)
          case measure => omega
          case rel => exact ⟨2, A4, c4, n4, rfl, by omega, by omega, rfl, ⟨by rw [hkk]; exact HN4.out, by have g1 := HN4.out; have g2 := HLN.out; rw [List.length_append] at g1; simp at g1; omega⟩, by rw [hkk]; exact HR6.out, HB6.out⟩
      · -- the kids are there
        have HTr := mkHid (HT0.out.below HB.out)
        have hx2 := HTr.out.nodes.is hD
        have hx3 : wr.cell? ⟨blk π, 3, none⟩ = some (.int .i64 ((m π).getD 0)) := HTr.out.nodes.val hD
        have hkd : ∀ x ∈ kl D l π 2, 0 ≤ x ∧ x ≤ 1000 := fun x hx => by
          have g1 := cnt_le l (π ++ [false])
          have g2 := cnt_le l (π ++ [true])
          unfold kl at hx
          rcases List.mem_append.1 hx with hx | hx
          · split at hx
            · rw [List.mem_singleton.1 hx]; omega
            · cases hx
          · split at hx
            · rw [List.mem_singleton.1 hx]; omega
            · cases hx
        have hsum : (kl D l π 2).sum + (if (m π).isSome = true then 1 else 0) = (cntT l π : Int) := by
          have g := cnt_step HTr.out HRel.out π
          have k0 : D (π ++ [false]) = false → cntT l (π ++ [false]) = 0 := fun h => cnt_out HTr.out HRel.out h
          have k1 : D (π ++ [true]) = false → cntT l (π ++ [true]) = 0 := fun h => cnt_out HTr.out HRel.out h
          unfold kl
          rw [g]
          cases e0 : D (π ++ [false]) <;> cases e1 : D (π ++ [true]) <;> cases (m π).isSome <;> simp [e0, e1] <;> (try have := k0 e0) <;> (try have := k1 e1) <;> omega
        have hlen := HLN.out
        have hcall : Hid (Calls Try.prog 15 #[.slice A ln c, .int .i64 ((m π).getD 0), .bool (m π).isSome] wr.drew fun e w' => e = .returned (.int .i64 (cntT l π : Int)) ∧ Below wr.drew.heap.size wr.drew w') := by
          have hRr := Kd.R_reads' (Kd.R_drew HR.out)
          have := cnt_calls wr.drew A c (kl D l π 2) ((m π).getD 0) (m π).isSome hRr.2.2 (by rw [← hlen.1]; exact hRr.2.1) (by rw [← hlen.1]; exact hlen.2) hkd
          rw [← hlen.1, hsum] at this
          exact this
        have HB9 := mkHid (below_drew HB.out)
        clear hkd hsum hlen HR HTr
        go_upto_region 8 with fail
        refine wp_region_held_drew (S := fun w' => w'.cell? ⟨blk π, 2, none⟩ = some (.bool (m π).isSome) ∧ w'.cell? ⟨blk π, 3, none⟩ = some (.int .i64 ((m π).getD 0))) (by kernel_rfl) ⟨hx2, hx3⟩ (fun hHeld => ?_)
        refine wpAnyH_take (i := 0) (oi := _) (v := ?_) rfl (by kernel_rfl) (by kernel_rfl) (by kernel_rfl) (fun _ _ _ h => h) (Or.inl ⟨by first | (simp [Region.wanted, yielded]; done) | rfl, ?_⟩) (by assumption) ?_
        rotate_left
        · intro w hSw
          first | (go_simp; done) | (go_simp; with_reducible rfl)
        (try simp only [Act.put, List.getElem_toArray, List.getElem_cons_succ, List.getElem_cons_zero, List.setIfInBounds_toArray, List.set_cons_zero, List.set_cons_succ])
        refine wpAnyH_take (i := 1) (oi := _) (v := ?_) rfl (by kernel_rfl) (by kernel_rfl) (by kernel_rfl) (fun _ _ _ h => h) (Or.inl ⟨by first | (simp [Region.wanted, yielded]; done) | rfl, ?_⟩) (by assumption) ?_
        rotate_left
        · intro w hSw
          first | (go_simp; done) | (go_simp; with_reducible rfl)
        (try simp only [Act.put, List.getElem_toArray, List.getElem_cons_succ, List.getElem_cons_zero, List.setIfInBounds_toArray, List.set_cons_zero, List.set_cons_succ])
        refine wpAnyH_take (i := 2) (oi := _) (v := ?_) rfl (by kernel_rfl) (by kernel_rfl) (by kernel_rfl) (fun _ _ _ h => h) (Or.inl ⟨by first | (simp [Region.wanted, yielded]; done) | rfl, ?_⟩) (by assumption) ?_
        rotate_left
        · intro w hSw
          first | (go_simp; done) | (go_simp; with_reducible rfl)
        (try simp only [Act.put, List.getElem_toArray, List.getElem_cons_succ, List.getElem_cons_zero, List.setIfInBounds_toArray, List.set_cons_zero, List.set_cons_succ])
        refine wpAnyH_take (i := 3) (oi := _) (v := ?_) rfl (by kernel_rfl) (by kernel_rfl) (by kernel_rfl) (fun _ _ _ h => h) (Or.inl ⟨by first | (simp [Region.wanted, yielded]; done) | rfl, ?_⟩) (by assumption) ?_
        rotate_left
        · intro w hSw
          first | (go_simp; done) | (go_simp; with_reducible rfl)
        (try simp only [Act.put, List.getElem_toArray, List.getElem_cons_succ, List.getElem_cons_zero, List.setIfInBounds_toArray, List.set_cons_zero, List.set_cons_succ])
        refine wpAnyH_take (i := 4) (oi := _) (v := ?_) rfl (by kernel_rfl) (by kernel_rfl) (by kernel_rfl) (fun _ _ _ h => h) (Or.inl ⟨by first | (simp [Region.wanted, yielded]; done) | rfl, ?_⟩) (by assumption) ?_
        rotate_left
        · intro w hSw
          first | (go_simp; done) | (go_simp; with_reducible rfl)
        (try simp only [Act.put, List.getElem_toArray, List.getElem_cons_succ, List.getElem_cons_zero, List.setIfInBounds_toArray, List.set_cons_zero, List.set_cons_succ])
        refine wpAnyH_take (i := 5) (oi := _) (v := ?_) rfl (by kernel_rfl) (by kernel_rfl) (by kernel_rfl) (fun _ _ _ h => h) (Or.inl ⟨by first | (simp [Region.wanted, yielded]; done) | rfl, ?_⟩) (by assumption) ?_
        rotate_left
        · intro w hSw
          first | (go_simp; done) | (go_simp; with_reducible rfl)
        (try simp only [Act.put, List.getElem_toArray, List.getElem_cons_succ, List.getElem_cons_zero, List.setIfInBounds_toArray, List.set_cons_zero, List.set_cons_succ])
        refine wpAnyH_take (i := 6) (oi := _) (v := ?_) rfl (by kernel_rfl) (by kernel_rfl) (by kernel_rfl) (fun _ _ _ h => h) (Or.inl ⟨by first | (simp [Region.wanted, yielded]; done) | rfl, ?_⟩) (by assumption) ?_
        rotate_left
        · intro w hSw
          first | (go_simp; done) | (go_simp; with_reducible rfl)
        (try simp only [Act.put, List.getElem_toArray, List.getElem_cons_succ, List.getElem_cons_zero, List.setIfInBounds_toArray, List.set_cons_zero, List.set_cons_succ])
        refine wpAnyH_take (i := 7) (oi := _) (v := ?_) rfl (by kernel_rfl) (by kernel_rfl) (by kernel_rfl) (fun _ _ _ h => h) (Or.inl ⟨by first | (simp [Region.wanted, yielded]; done) | rfl, ?_⟩) (by assumption) ?_
        rotate_left
        · intro w hSw
          first | (go_simp; done) | (go_simp; with_reducible rfl)
        (try simp only [Act.put, List.getElem_toArray, List.getElem_cons_succ, List.getElem_cons_zero, List.setIfInBounds_toArray, List.set_cons_zero, List.set_cons_succ])
        refine wpAnyH_take (i := 8) (oi := _) (v := ?_) rfl (by kernel_rfl) (by kernel_rfl) (by kernel_rfl) (fun _ _ _ h => h) (Or.inl ⟨by first | (simp [Region.wanted, yielded]; done) | rfl, ?_⟩) (by assumption) ?_
        rotate_left
        · intro w hSw
          first | (go_simp; done) | (go_simp; with_reducible rfl)
        (try simp only [Act.put, List.getElem_toArray, List.getElem_cons_succ, List.getElem_cons_zero, List.setIfInBounds_toArray, List.set_cons_zero, List.set_cons_succ])
        refine wpAnyH_take (i := 9) (oi := _) (v := ?_) rfl (by kernel_rfl) (by kernel_rfl) (by kernel_rfl) (fun _ _ _ h => h) (Or.inl ⟨by first | (simp [Region.wanted, yielded]; done) | rfl, ?_⟩) (by assumption) ?_
        rotate_left
        · intro w hSw
          first | (go_simp; done) | (go_simp; with_reducible rfl)
        (try simp only [Act.put, List.getElem_toArray, List.getElem_cons_succ, List.getElem_cons_zero, List.setIfInBounds_toArray, List.set_cons_zero, List.set_cons_succ])
        refine wpAnyH_ready (rs := [10]) (by kernel_rfl) (by simp) (AllReadyH.cons (o := _) rfl (fun K_ hK_ => ?_) AllReadyH.nil)
        go_simp
        (go_at_call 15; refine hcall.out.mono ?_; rintro e w5 ⟨rfl, hb5⟩)
        refine hK_.out _ _ ⟨cell_keep hb5 (show World.cell? _ _ = some (.bool (m π).isSome) from hx2), cell_keep hb5 (show World.cell? _ _ = some (.int .i64 ((m π).getD 0)) from hx3)⟩ (fun hHeld => ?_)
        clear hK_ K_
        (try simp only [Act.put, List.getElem_toArray, List.getElem_cons_succ, List.getElem_cons_zero, List.setIfInBounds_toArray, List.set_cons_zero, List.set_cons_succ])
        refine wpAnyH_take (i := 11) (oi := _) (v := ?_) rfl (by kernel_rfl) (by kernel_rfl) (by kernel_rfl) (fun _ _ _ h => h) (Or.inl ⟨by first | (simp [Region.wanted, yielded]; done) | rfl, ?_⟩) (by assumption) ?_
        rotate_left
        · intro w hSw
          first | (go_simp; done) | (go_simp; with_reducible rfl)
        (try simp only [Act.put, List.getElem_toArray, List.getElem_cons_succ, List.getElem_cons_zero, List.setIfInBounds_toArray, List.set_cons_zero, List.set_cons_succ])
        refine wpAnyH_done (by kernel_rfl) ?_ _
        have HB7 := mkHid (below_step HB9.out hb5)
        clear hb5
        go_wp2_with fail
        go_ret
        exact ⟨rfl, HB7.out⟩
end Go.Proofs.Ytnihacajjpcjeaa
