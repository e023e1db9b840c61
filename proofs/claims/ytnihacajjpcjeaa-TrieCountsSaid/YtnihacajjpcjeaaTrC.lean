/- Tries: folded by counting. -/
import Derived.Test.YtnihacajjpcjeaaTrM
import Derived.Test.YtnihacajjpcjeaaPx0
namespace Go.Proofs.Ytnihacajjpcjeaa
open Go.RowKit Go.Proofs.Ytnihacajjpcjeaa.P Go.Proofs.YtnihacajjpcjeaaW.PrintWords Go.Proofs.YtnihacajjpcjeaaW.PrintLast Go.Proofs.YtnihacajjpcjeaaW.PrintMore
set_option linter.unusedVariables false
set_option linter.unusedSimpArgs false

/-- how many of a list's prefixes lie below a way -/
def cntT (l : List S43) (π : Way) : Nat := l.countP fun x => π.isPrefixOf (wayP x.f0)
theorem pre_split (π w : Way) : (if π.isPrefixOf w = true then 1 else 0) = (if w = π then 1 else 0) + (if (π ++ [false]).isPrefixOf w = true then 1 else 0) + (if (π ++ [true]).isPrefixOf w = true then (1 : Nat) else 0) := by
  induction π generalizing w with
  | nil =>
    cases w with
    | nil => rfl
    | cons b w => cases b <;> rfl
  | cons a π ih =>
    cases w with
    | nil => rfl
    | cons b w =>
      by_cases e : a = b
      · subst e
        have := ih w
        simpa [List.isPrefixOf] using this
      · have e2 : (a == b) = false := beq_eq_false_iff_ne.mpr e
        have e3 : ¬ b = a := fun h => e h.symm
        simp [List.isPrefixOf, e2, e3]
theorem cnt_split (l : List S43) (π : Way) : cntT l π = l.countP (fun x => decide (wayP x.f0 = π)) + cntT l (π ++ [false]) + cntT l (π ++ [true]) := by
  unfold cntT
  induction l with
  | nil => rfl
  | cons x l ih =>
    simp only [List.countP_cons]
    have := pre_split π (wayP x.f0)
    simp only [decide_eq_true_eq]
    omega
theorem cnt_le (l : List S43) (π : Way) : cntT l π ≤ l.length := List.countP_le_length
theorem cnt_own {m : Way → Option Int} {l : List S43} (hR : Rel m l) (π : Way) : l.countP (fun x => decide (wayP x.f0 = π)) = if (m π).isSome = true then 1 else 0 := by
  have hle : ∀ l : List S43, l.Pairwise bef → (∀ x ∈ l, okP x.f0) → l.countP (fun x => decide (wayP x.f0 = π)) ≤ 1 := by
    intro l
    induction l with
    | nil => intro _ _; simp
    | cons x l ih =>
      intro hs ho
      obtain ⟨h1, h2⟩ := List.pairwise_cons.1 hs
      rw [List.countP_cons]
      by_cases e : wayP x.f0 = π
      · have : l.countP (fun x => decide (wayP x.f0 = π)) = 0 := by
          rw [List.countP_eq_zero]
          intro y hy hw
          have hw' : wayP y.f0 = π := by simpa using hw
          exact befP_ne (h1 y hy) (wayP_inj (ho x (List.mem_cons_self)) (ho y (List.mem_cons_of_mem _ hy)) (e.trans hw'.symm))
        rw [this]; simp [e]
      · have := ih h2 (fun y hy => ho y (List.mem_cons_of_mem _ hy))
        simp [e]; exact this
  have h1 := hle l hR.srt (fun x hx => (hR.ok x hx).1)
  cases hm : m π with
  | none =>
    simp only [Option.isSome_none, Bool.false_eq_true, if_false]
    rw [List.countP_eq_zero]
    intro x hx hw
    have hw' : wayP x.f0 = π := by simpa using hw
    have := (hR.ok x hx).2
    rw [hw', hm] at this; cases this
  | some v =>
    simp only [Option.isSome_some, if_true]
    obtain ⟨x, hx, hw⟩ := hR.all π v hm
    have : 0 < l.countP (fun x => decide (wayP x.f0 = π)) := List.countP_pos_iff.2 ⟨x, hx, by simpa using hw⟩
    omega
theorem isPrefix_append (π ρ : Way) : π.isPrefixOf (π ++ ρ) = true := by
  rw [List.isPrefixOf_iff_prefix]; exact List.prefix_append _ _
section
variable {w : World} {bt : Nat} {n : Int} {D : Way → Bool} {m : Way → Option Int} {blk : Way → Nat} {l : List S43}
theorem cnt_out (hT : TrieAt kI w bt n D m blk) (hR : Rel m l) {π : Way} (hD : D π = false) : cntT l π = 0 := by
  unfold cntT
  rw [List.countP_eq_zero]
  intro x hx hp
  obtain ⟨ρ, hρ⟩ := List.isPrefixOf_iff_prefix.1 hp
  have h1 := hT.nodes.sup (wayP x.f0) (by rw [(hR.ok x hx).2]; rfl)
  rw [← hρ] at h1
  rw [hT.nodes.ups ρ π h1] at hD; cases hD
theorem D_len (hR : Rel m l) (hG : ∀ π, D π = true → ∃ ρ, (m (π ++ ρ)).isSome = true) {π : Way} (hD : D π = true) : π.length ≤ 32 := by
  obtain ⟨ρ, hr⟩ := hG π hD
  obtain ⟨v, hv⟩ := Option.isSome_iff_exists.1 hr
  obtain ⟨x, hx, hw⟩ := hR.all _ v hv
  have := congrArg List.length hw
  unfold wayP at this
  rw [wayA_len, List.length_append] at this
  have := okP_bits (hR.ok x hx).1
  omega
theorem cnt_step (hT : TrieAt kI w bt n D m blk) (hR : Rel m l) (π : Way) : cntT l π = (if (m π).isSome = true then 1 else 0) + cntT l (π ++ [false]) + cntT l (π ++ [true]) := by
  rw [← cnt_own hR π]; exact cnt_split l π
end

set_option maxHeartbeats 8000000 in
set_option maxRecDepth 100000 in
theorem nod_nil (w : World) : Calls Try.prog 19 #[.slice none 0 0, .int .i64 0, .bool false] w fun e w' => e = .returned (.int .i64 1) ∧ Below w.heap.size w w' := by
  go_enter Try.func19, Try.ntmps19
  go_wp2_with fail
  go_loopg [7, 8] 0 (fun kq v7 v8 wr => v7 = .int .i64 1 ∧ v8 = .int .i64 0 ∧ Hid (wr = w))
  case atStart => exact ⟨rfl, rfl, rfl⟩
  case round =>
    obtain ⟨rfl, rfl, hw⟩ := hrel
    go_wp2_with fail
    go_ret
    exact ⟨rfl, by rw [hw.out]; exact Below.refl _ _⟩
set_option maxHeartbeats 8000000 in
set_option maxRecDepth 100000 in
theorem cnt_calls (w : World) (A : Option Addr) (c : Nat) (kids : List Int) (v : Int) (is : Bool) (hr : Kd.C (Kd.int .i64) w A kids.length kids) (hc : kids.length ≤ c) (hn : kids.length ≤ 2) (hb : ∀ x ∈ kids, 0 ≤ x ∧ x ≤ 1000) :
    Calls Try.prog 15 #[.slice A kids.length c, .int .i64 v, .bool is] w fun e w' => e = .returned (.int .i64 (kids.sum + (if is = true then 1 else 0))) ∧ Below w.heap.size w w' := by
  have HR := mkHid hr
  have hsum : ∀ i, i ≤ kids.length → 0 ≤ (kids.take i).sum ∧ (kids.take i).sum ≤ 2000 := by
    intro i hi
    match kids, hn, hb, hi with
    | [], _, _, _ => simp
    | [x], _, hb, hi =>
      have := hb x (by simp)
      match i, hi with
      | 0, _ => simp
      | 1, _ => simp; omega
    | [x, y], _, hb, hi =>
      have h1 := hb x (by simp)
      have h2 := hb y (by simp)
      match i, hi with
      | 0, _ => simp
      | 1, _ => simp; omega
      | 2, _ => simp; omega
  have HSUM := mkHid hsum
  have hall := hsum kids.length (Nat.le_refl _)
  rw [List.take_length] at hall
  obtain ⟨K, hK⟩ : ∃ K, K = kids.sum + (if is = true then 1 else 0) := ⟨_, rfl⟩
  have HK := mkHid hK
  rw [← hK]
  obtain ⟨ln, hln⟩ : ∃ ln, ln = kids.length := ⟨_, rfl⟩
  have HLN := mkHid hln
  rw [← hln] at hc hn ⊢
  clear hr hb hsum hK hln
  go_enter Try.func15, Try.ntmps15
  go_wp2_with fail
  go_loopg [7, 8] ln (fun kq v7 v8 wr => ∃ (i : Nat) (s : Int), v8 = .int .i64 i ∧ i ≤ ln ∧ i + kq = ln ∧ v7 = .int .i64 s ∧ Hid (s = (kids.take i).sum) ∧ Hid (wr = w))
  case atStart => exact ⟨0, 0, rfl, by omega, by omega, rfl, by simp [Hid], rfl⟩
  case round =>
    obtain ⟨i, s, rfl, hi, hk, rfl, hs, hw⟩ := hrel
    have hw' := hw.out
    subst hw'
    by_cases hil : i < ln
    · have hlt : i < kids.length := by rw [← HLN.out]; exact hil
      obtain ⟨x, hx⟩ : ∃ x, kids[i]? = some x := ⟨_, List.getElem?_eq_getElem (h := hlt)⟩
      obtain ⟨b, o, hA, _, hcells⟩ := C_at HR.out (by decide) (by omega)
      subst hA
      obtain ⟨cs, hcl, hcK, hcc⟩ := hcells i x hx
      have hd : wr.cell? ⟨b, o + i, none⟩ = some (.int .i64 x) := by
        obtain rfl : cs = [.int .i64 x] := hcK
        have := hcc 0 _ rfl
        simpa [Kd.int, Kd.scalar] using this
      have hbs := HSUM.out (i + 1) (by omega)
      have hts : (kids.take (i + 1)).sum = s + x := by
        rw [List.take_add_one, hx, hs.out]; simp
      rw [hts] at hbs
      have hws : IntKind.i64.wrap (s + x) = s + x := IntWalk.i64_in _ (by omega)
      have hwi : IntKind.i64.wrap ((i : Int) + 1) = ((i + 1 : Nat) : Int) := by rw [IntWalk.i64_in _ (by omega)]; omega
      have HTS := mkHid hts
      clear hcells hcc hcK hcl hx hts hlt hbs
      go_wp2_with fail
      go_roundg (gk - 1)
      case measure => omega
      case rel => exact ⟨i + 1, s + x, rfl, by omega, by omega, rfl, HTS.out.symm, rfl⟩
    · have hsum2 : s = kids.sum := by
        have := hs.out
        rw [List.take_of_length_le (by have := HLN.out; omega)] at this; exact this
      have hb2 := hall
      rw [← hsum2] at hb2
      have hws : IntKind.i64.wrap (s + 1) = s + 1 := IntWalk.i64_in _ (by omega)
      have HS2 := mkHid hsum2
      clear hall hb2 hsum2
      cases is with
      | true =>
        go_wp2_with fail
        go_ret
        exact ⟨by have := HK.out; rw [HS2.out, this]; rfl, Below.refl _ _⟩
      | false =>
        go_wp2_with fail
        go_ret
        exact ⟨by have := HK.out; rw [HS2.out, this]; simp, Below.refl _ _⟩
end Go.Proofs.Ytnihacajjpcjeaa
