/- Tries: any step; what is made of some steps. -/
import Derived.Test.YtnihacajjpcjeaaTrT
import Derived.Test.YtnihacajjpcjeaaPx0
import Derived.Test.YtnihacajjpcjeaaPx2
namespace Go.Proofs.Ytnihacajjpcjeaa
open Go.RowKit Go.Proofs.Ytnihacajjpcjeaa.P Go.Proofs.YtnihacajjpcjeaaW.PrintWords Go.Proofs.YtnihacajjpcjeaaW.PrintLast Go.Proofs.YtnihacajjpcjeaaW.PrintMore
set_option linter.unusedVariables false
set_option linter.unusedSimpArgs false

theorem step_any (w0 w : World) (bt : Nat) (own : Nat → Prop) (n : Int) (m : Way → Option Int) (v : Value) (l : List S43) (H : SO w0 w bt own n m v l) (x : S61) (ha : isA x.f2.f0) (hl : l.length ≤ 90) :
    Calls Try.prog 30 #[.pointer (some ⟨bt, 0, none⟩), v, .agg #[.int .i64 x.f0, .int .i64 x.f1, .int .u32 x.f2.f0, .int .i64 x.f2.f1, .int .u32 x.f3]] w fun e w' => ∃ (v' : Value) (own' : Nat → Prop) (n' : Int) (m' : Way → Option Int) (l' : List S43), e = .returned (.tuple #[v', .bool true]) ∧ SO w0 w' bt own' n' m' v' l' ∧ l'.length ≤ l.length + 1 := by
  obtain ⟨kd, vv, ⟨a, b⟩, A⟩ := x
  simp only at ha ⊢
  have hread : ∀ {f : FuncId} {args : Array Value}, Calls Try.prog f args w (fun e w' => e = .returned (.tuple #[v, .bool true]) ∧ Below w.heap.size w w') → Calls Try.prog f args w fun e w' => ∃ (v' : Value) (own' : Nat → Prop) (n' : Int) (m' : Way → Option Int) (l' : List S43), e = .returned (.tuple #[v', .bool true]) ∧ SO w0 w' bt own' n' m' v' l' ∧ l'.length ≤ l.length + 1 := by
    intro f args h
    refine h.mono ?_
    rintro e w' ⟨rfl, hb⟩
    exact ⟨v, own, n, m, l, rfl, H.read hb, by omega⟩
  obtain ⟨y, hy⟩ := number_ex vv
  cases hm : mayB a b with
  | false =>
    have hM : addr_May.f a b = some false := by rw [may_is _ _ ha, hm]
    obtain ⟨k, hk⟩ := (refMay_ev a b ha).ex
    rw [hm] at hk
    by_cases h0 : kd = 0
    · subst h0; exact hread (step_put_not w bt v vv a b A k hM hk)
    · by_cases h1 : kd = 1
      · subst h1; exact hread (step_drop_not w bt v vv a b A k hM hk)
      · exact hread (step_else w _ v kd vv a b A h0 h1)
  | true =>
    have hM : addr_May.f a b = some true := by rw [may_is _ _ ha, hm]
    have hev := refMay_ev a b ha
    rw [hm] at hev
    obtain ⟨u, t, s1, s2, s3, s4⟩ := atL_spec ⟨a, b⟩ l H.rel.srt
    have hp : okP ⟨a, b⟩ := ⟨ha, hm⟩
    have his := at_mem H.rel hp s2 s3 s4
    by_cases h0 : kd = 0
    · subst h0
      obtain ⟨k, hk1, hk2⟩ := Evt.two hev (put_ev l a b y (by omega) s1 s4)
      have hlen : ((u ++ [(⟨⟨a, b⟩, y⟩ : S43)] ++ t).length : Int) = if (atL ⟨a, b⟩ l).2 = true then (l.length : Int) else l.length + 1 := by
        rcases s4 with ⟨hb, x, hx, h⟩ | ⟨hb, h⟩ <;> rw [hb, h] <;> simp <;> omega
      refine (step_put w0 w bt own n m v l H vv a b A k ha (by omega) hM hk1 y hy _ _ hk2 his (rel_put H.rel hp y s2 s3 s4) hlen).mono ?_
      rintro e w' ⟨v', own', n', rfl, hS⟩
      exact ⟨v', own', n', _, _, rfl, hS, by split at hlen <;> omega⟩
    · by_cases h1 : kd = 1
      · subst h1
        obtain ⟨k, hk1, hk2⟩ := Evt.two hev (drop_ev l a b (by omega) s1 s4)
        have hlen : (l.length : Int) = if (atL ⟨a, b⟩ l).2 = true then ((u ++ t).length : Int) + 1 else (u ++ t).length := by
          rcases s4 with ⟨hb, x, hx, h⟩ | ⟨hb, h⟩ <;> rw [hb, h] <;> simp <;> omega
        refine (step_drop w0 w bt own n m v l H vv a b A k ha (by omega) hM hk1 _ _ hk2 his (rel_drop H.rel hp s2 s3 s4) hlen).mono ?_
        rintro e w' ⟨v', own', n', rfl, hS⟩
        exact ⟨v', own', n', _, _, rfl, hS, by split at hlen <;> omega⟩
      · exact hread (step_else w _ v kd vv a b A h0 h1)

set_option maxHeartbeats 8000000 in
set_option maxRecDepth 100000 in
theorem made_calls (w : World) (A0 : Option Addr) (c0 : Nat) (l0 : List S61) (hr0 : Kd.C k61 w A0 l0.length l0) (hc0 : l0.length ≤ c0) (hok : ∀ x ∈ l0, isA x.f2.f0) :
    Calls Try.prog 9 #[.slice A0 l0.length c0] w fun e w' => ∃ (bt : Nat) (own : Nat → Prop) (n : Int) (m : Way → Option Int) (v : Value) (l : List S43), e = .returned (.tuple #[.pointer (some ⟨bt, 0, none⟩), v]) ∧ SO w w' bt own n m v l ∧ l.length ≤ 30 := by
  have hmax := Kd.C_max hr0
  have HR0 := mkHid hr0
  have HOK := mkHid hok
  clear hr0 hok
  go_enter Try.func9, Try.ntmps9
  go_wp2_with fail
  refine (new_calls w).mono ?_
  rintro e w1 ⟨rfl, hs1, hT1, hB1⟩
  have HS1 : Hid (SO w w1 w.heap.size (fun b => b = w.heap.size) 0 (fun _ => none) (.slice none 0 0) []) :=
    ⟨hB1, hT1, fun b h => by omega, Kd.R_nil _ _ _ _ _, fun k h => by simp [Value.ownBlock] at h, rel_nil, rfl⟩
  have HB1 := mkHid hB1
  clear hT1 hB1
  go_wp2_with fail
  go_loopg [5, 6] 30 (fun kq v5 v6 wr => ∃ (i : Nat) (own : Nat → Prop) (n : Int) (m : Way → Option Int) (l : List S43), v6 = .int .i64 i ∧ i ≤ l0.length ∧ i + kq = 30 ∧ Hid (l.length ≤ i) ∧ Hid (SO w wr w.heap.size own n m v5 l))
  case atStart => exact ⟨0, _, 0, _, [], rfl, by omega, by omega, Nat.le_refl _, HS1.out⟩
  case round =>
    obtain ⟨i, own, n, m, l, rfl, hi, hk, hl, HS⟩ := hrel
    by_cases hend : i < l0.length ∧ i < 30
    · obtain ⟨q1, q2⟩ := hend
      have c2 : decide ((i : Int) < 30) = true := decide_eq_true (by omega)
      obtain ⟨x, hx⟩ : ∃ x, l0[i]? = some x := ⟨_, List.getElem?_eq_getElem (h := q1)⟩
      obtain ⟨ad, hA, d0, d1, d2, d3, d4⟩ := at_T61 (Kd.C_below HR0.out HS.out.below) (i : Int) (by omega) (by omega)
      subst hA
      have hrd : rd_T61 l0 (i : Int) = x := by unfold rd_T61; rw [Int.toNat_natCast, List.getD_eq_getElem?_getD, hx]; rfl
      rw [hrd, Int.toNat_natCast] at d0 d1 d2 d3 d4
      have hxa : isA x.f2.f0 := HOK.out x (List.mem_of_getElem? hx)
      have hw : IntKind.i64.wrap ((i : Int) + 1) = ((i + 1 : Nat) : Int) := by rw [IntWalk.i64_in _ (by omega)]; omega
      clear hrd hx
      go_wp2_with fail
      refine (step_any w _ _ own n m _ l HS.out x hxa (by have := hl.out; omega)).mono ?_
      rintro e w2 ⟨v', own', n', m', l', rfl, hS, hll⟩
      have HS2 := mkHid hS
      have HL2 : Hid (l'.length ≤ i + 1) := by have := hl.out; unfold Hid; omega
      clear hS hll d0 d1 d2 d3 d4 hl HS
      go_wp2_with fail
      go_roundg (gk - 1)
      case measure => omega
      case rel => exact ⟨i + 1, own', n', m', l', rfl, by omega, by omega, HL2.out, HS2.out⟩
    · have hdec : (¬ i < l0.length) ∨ (i < l0.length ∧ decide ((i : Int) < 30) = false) := by
        by_cases h : i < l0.length
        · exact .inr ⟨h, decide_eq_false (by omega)⟩
        · exact .inl h
      rcases hdec with c1 | ⟨c1, c2⟩
      · go_wp2_with fail
        go_ret2
        exact ⟨w.heap.size, own, n, m, _, l, rfl, HS.out, by have := hl.out; omega⟩
      · go_wp2_with fail
        go_ret2
        exact ⟨w.heap.size, own, n, m, _, l, rfl, HS.out, by have := hl.out; omega⟩
end Go.Proofs.Ytnihacajjpcjeaa
