/- Part of the proof of RowWireCuts: what it asks of functions, words and plain facts (put together by this session's own program, wip/tools/shake.py). -/
import Derived.Test.YtjmpojfpbhihpaaZWireCuts0
import Derived.Test.YtjmpojfpbhihpaaZWireCuts1
import Derived.Test.YtjmpojfpbhihpaaZWireCuts2
import Derived.Test.YtjmpojfpbhihpaaZWireCuts3
import Derived.Test.YtjmpojfpbhihpaaZWireCuts4
import Derived.Test.YtjmpojfpbhihpaaZWireCuts5
import Derived.Test.YtjmpojfpbhihpaaZWireCuts6
import Derived.ArgAppend
import Derived.Deep.Slices
import Derived.ChangeArms
import Derived.OpenShut
import Derived.SizedLaws
import Derived.KernelRfl
section
namespace Go.Proofs.Ytjmpojfpbhihpaa
open Go.RowKit Go.Proofs.Ytjmpojfpbhihpaa.P Go.Proofs.YtjmpojfpbhihpaaW.PrintWords Go.Proofs.YtjmpojfpbhihpaaW.PrintLast Go.Proofs.YtjmpojfpbhihpaaW.PrintMore
set_option linter.unusedVariables false
set_option linter.unusedSimpArgs false

theorem beV1 (n : Int) (h0 : 0 ≤ n) (h1 : n < 256) : beV [n % 256] = n := by simp [beV]; omega
/-- attributes are read to their end -/
def RdsA (A : List Int) (a : S41) (at_ : Nat) (r : S41) : Prop := ∃ n, n ≤ A.length - at_ ∧ ∀ k, n ≤ k → attrsV A k a at_ = some r
theorem attrV_at (a a' : S41) (X P Y : List Int) (fl kind : Int) (hk : 0 ≤ kind ∧ kind < 256) (hP : P.length < 256) (h : payV a kind P = some a') : attrV a (X ++ oneB fl kind P ++ Y) X.length = some (a', X.length + 3 + P.length) := by
  have d1 : ((X ++ oneB fl kind P ++ Y).drop (X.length + 1)).take 1 = [kind] := by
    rw [List.append_assoc, List.drop_append, List.drop_eq_nil_of_le (by omega), List.nil_append, show X.length + 1 - X.length = 1 by omega]; rfl
  have d2 : ((X ++ oneB fl kind P ++ Y).drop (X.length + 2)).take 1 = [(P.length : Int) % 256] := by
    rw [List.append_assoc, List.drop_append, List.drop_eq_nil_of_le (by omega), List.nil_append, show X.length + 2 - X.length = 2 by omega]; rfl
  have d3 : ((X ++ oneB fl kind P ++ Y).drop (X.length + 3)).take P.length = P := by
    rw [List.append_assoc, List.drop_append, List.drop_eq_nil_of_le (by omega), List.nil_append, show X.length + 3 - X.length = 3 by omega]
    show (P ++ Y).take P.length = P
    rw [List.take_left]
  have hk2 : beV [kind] = kind := by simp [beV]
  have hL : (X ++ oneB fl kind P ++ Y).length = X.length + (P.length + 3) + Y.length := by rw [List.length_append, List.length_append, oneB_len]
  unfold attrV
  rw [d2, beV1 _ (by omega) (by omega), Int.toNat_natCast, d1, d3, hk2, h, if_pos ⟨by omega, by omega⟩]
  rfl
theorem RdsA.one {a a' r : S41} {X P Y : List Int} {fl kind : Int} (hk : 0 ≤ kind ∧ kind < 256) (hP : P.length < 256) (h : payV a kind P = some a') (hr : RdsA (X ++ oneB fl kind P ++ Y) a' (X ++ oneB fl kind P).length r) : RdsA (X ++ oneB fl kind P ++ Y) a X.length r := by
  obtain ⟨n, h1, h2⟩ := hr
  have hL : (X ++ oneB fl kind P ++ Y).length = X.length + (P.length + 3) + Y.length := by rw [List.length_append, List.length_append, oneB_len]
  have hl2 : (X ++ oneB fl kind P).length = X.length + (P.length + 3) := by rw [List.length_append, oneB_len]
  rw [hl2, hL] at h1
  rw [hl2] at h2
  refine ⟨n + 1, by omega, fun k hk2 => ?_⟩
  obtain ⟨k, rfl⟩ : ∃ m, k = m + 1 := ⟨k - 1, by omega⟩
  rw [attrsV, if_neg (by omega), attrV_at a a' X P Y fl kind hk hP h]
  show attrsV _ k a' (X.length + 3 + P.length) = some r
  rw [show X.length + 3 + P.length = X.length + (P.length + 3) by omega]
  exact h2 k (by omega)
theorem RdsA.step {A : List Int} {a a' r : S41} (X P Y : List Int) (fl kind : Int) (c : Bool) (hA : A = X ++ opt c (oneB fl kind P) ++ Y) (hk : 0 ≤ kind ∧ kind < 256) (hP : P.length < 256) (h : c = true → payV a kind P = some a') (hf : c = false → a' = a) (hr : RdsA A a' (X ++ opt c (oneB fl kind P)).length r) : RdsA A a X.length r := by
  subst hA
  cases c with
  | true => exact RdsA.one hk hP (h rfl) hr
  | false =>
    rw [hf rfl] at hr
    simpa [opt] using hr
/-- prefixes are read to their end -/
def RdsP (B : List Int) (at_ : Nat) (r : List S25) : Prop := ∃ n, n ≤ B.length - at_ ∧ ∀ k, n ≤ k → prefsV B k at_ = some r
theorem pa_app (D Y : List Int) : ∀ n, n ≤ D.length → pa (D ++ Y) n = pa D n := by
  intro n
  induction n with
  | zero => intro _; rfl
  | succ n ih =>
    intro h
    rw [pa, pa, ih (by omega)]
    congr 2
    rw [List.getD_eq_getElem?_getD, List.getD_eq_getElem?_getD, List.getElem?_append_left (by omega)]
theorem pfx_length (a b : Int) (h : mayB a b = true) : (pfx a b).length = 1 + nb b := by
  obtain ⟨b0, b1, _⟩ := (mayB_iff a b).1 h
  have hn := nb_le b b0 b1
  unfold pfx; rw [List.length_cons, List.length_take]; simp [be4]; omega
theorem takeL_at (X Y : List Int) (a b : Int) (ha : isA a) (h : mayB a b = true) : takeL (X ++ pfx a b ++ Y) X.length = (a, b, ((X.length + (pfx a b).length : Nat) : Int), 0) := by
  obtain ⟨b0, b1, b2⟩ := (mayB_iff a b).1 h
  have hn := nb_le b b0 b1
  have hpl := pfx_length a b h
  have hg : (X ++ pfx a b ++ Y).getD X.length 0 = b := by
    rw [List.append_assoc, List.getD_eq_getElem?_getD, List.getElem?_append_right (Nat.le_refl _)]; simp [pfx]
  have hlen : (X ++ pfx a b ++ Y).length = X.length + (1 + nb b) + Y.length := by rw [List.length_append, List.length_append, hpl]
  have hdr : (X ++ pfx a b ++ Y).drop (X.length + 1) = (be4 a).take (nb b) ++ Y := by
    rw [List.append_assoc, List.drop_append, List.drop_eq_nil_of_le (by omega), List.nil_append, show X.length + 1 - X.length = 1 by omega]; rfl
  unfold takeL
  rw [if_neg (by omega), hg, if_neg (by omega), if_neg (by omega), hdr, pa_app _ _ _ (by rw [List.length_take]; simp [be4]; omega), pa_back a b ha h]
  unfold fin4
  rw [if_pos h, hpl]
  simp; omega
theorem RdsP.of (Y : List S25) : ∀ (X : List Int), (∀ x ∈ Y, isA x.f0 ∧ mayB x.f0 x.f1 = true) → RdsP (X ++ preB Y) X.length Y := by
  induction Y with
  | nil =>
    intro X _
    refine ⟨0, by omega, fun k _ => ?_⟩
    have : (X ++ preB []).length ≤ X.length := by simp [preB]
    cases k <;> rw [prefsV, if_pos this]
  | cons y Y ih =>
    intro X h
    have hy := h y (by simp)
    have hpl := pfx_length y.f0 y.f1 hy.2
    obtain ⟨n, h1, h2⟩ := ih (X ++ pfx y.f0 y.f1) (fun x hx => h x (List.mem_cons_of_mem _ hx))
    have e : X ++ preB (y :: Y) = X ++ pfx y.f0 y.f1 ++ preB Y := by unfold preB; rw [List.flatMap_cons, List.append_assoc]
    have hL : (X ++ pfx y.f0 y.f1 ++ preB Y).length = X.length + (pfx y.f0 y.f1).length + (preB Y).length := by rw [List.length_append, List.length_append]
    rw [e]
    have hl2 : (X ++ pfx y.f0 y.f1).length = X.length + (pfx y.f0 y.f1).length := List.length_append
    rw [hl2, hL] at h1
    rw [hl2] at h2
    refine ⟨n + 1, by omega, fun k hk => ?_⟩
    obtain ⟨k, rfl⟩ : ∃ m, k = m + 1 := ⟨k - 1, by omega⟩
    rw [prefsV_ok _ k X.length _ _ _ (by omega) (takeL_at X (preB Y) y.f0 y.f1 hy.1 hy.2), h2 k (by omega)]
    rfl
theorem hd_len (kind n : Int) : (wire_framed.hd kind n).length = 19 := rfl
end Go.Proofs.Ytjmpojfpbhihpaa

end
section
namespace Go.Proofs.Ytjmpojfpbhihpaa
open Go.RowKit Go.Proofs.Ytjmpojfpbhihpaa.P Go.Proofs.YtjmpojfpbhihpaaW.PrintWords Go.Proofs.YtjmpojfpbhihpaaW.PrintLast Go.Proofs.YtjmpojfpbhihpaaW.PrintMore
set_option linter.unusedVariables false
set_option linter.unusedSimpArgs false


def zU : S47 := ⟨[], [], z41⟩

def uc (u : S47) (A0 A1 A3 A4 A6 : Option Addr) (c0 c1 c3 c4 c6 : Nat) : Array Value := #[.slice A0 u.f0.length c0, .slice A1 u.f1.length c1, .int .i64 u.f2.f0, .int .i64 u.f2.f1, .int .i64 u.f2.f2, .slice A3 u.f2.f3.length c3, .slice A4 u.f2.f4.length c4, .int .i64 u.f2.f5, .slice A6 u.f2.f6.length c6]

structure UpdC (w : World) (u : S47) (A0 A1 A3 A4 A6 : Option Addr) (c0 c1 c3 c4 c6 : Nat) : Prop where
  r0 : Kd.C k25 w A0 u.f0.length u.f0
  l0 : u.f0.length ≤ c0
  r1 : Kd.C k25 w A1 u.f1.length u.f1
  l1 : u.f1.length ≤ c1
  r3 : Kd.C (Kd.int .i64) w A3 u.f2.f3.length u.f2.f3
  l3 : u.f2.f3.length ≤ c3
  r4 : Kd.C k102 w A4 u.f2.f4.length u.f2.f4
  l4 : u.f2.f4.length ≤ c4
  r6 : Kd.C (Kd.int .i64) w A6 u.f2.f6.length u.f2.f6
  l6 : u.f2.f6.length ≤ c6
theorem UpdC.below {w w' : World} {u : S47} {A0 A1 A3 A4 A6 : Option Addr} {c0 c1 c3 c4 c6 : Nat} (h : UpdC w u A0 A1 A3 A4 A6 c0 c1 c3 c4 c6) (hb : Below w.heap.size w w') : UpdC w' u A0 A1 A3 A4 A6 c0 c1 c3 c4 c6 :=
  ⟨Kd.C_below h.r0 hb, h.l0, Kd.C_below h.r1 hb, h.l1, Kd.C_below h.r3 hb, h.l3, Kd.C_below h.r4 hb, h.l4, Kd.C_below h.r6 hb, h.l6⟩
theorem UpdC.none (w : World) : UpdC w zU none none none none none 0 0 0 0 0 :=
  ⟨Kd.C_nil _ w, Nat.le_refl _, Kd.C_nil _ w, Nat.le_refl _, Kd.C_nil _ w, Nat.le_refl _, Kd.C_nil _ w, Nat.le_refl _, Kd.C_nil _ w, Nat.le_refl _⟩

def DecA (B : List Int) (u : S47) (er : Int) : Prop := FewU u 100000 ∧ ((B.length < 19 ∧ u = zU ∧ er = 3) ∨ (19 ≤ B.length ∧ NoDec B ∧ u = zU ∧ er = 4) ∨ (decV B = some u ∧ updB u = true ∧ encB u = B ∧ er = 0))
theorem FewU.none (n : Nat) : FewU zU n := ⟨by simp [zU], by simp [zU], by simp [zU, z41], by simp [zU, z41], by simp [zU, z41], fun x hx => (by cases hx), fun x hx => (by cases hx)⟩
theorem decode_calls (w : World) (A : Option Addr) (c : Nat) (B : List Int) (hC : Kd.C (Kd.int .u8) w A B.length B) (hc : B.length ≤ c) (hu : U8 B) (hB : B.length ≤ 100000) :
    Calls Try.prog 20 #[.slice A B.length c] w fun e w' => Below w.heap.size w w' ∧ ∃ (u : S47) (er : Int) (A0 A1 A3 A4 A6 : Option Addr) (c0 c1 c3 c4 c6 : Nat), e = .returned (.tuple #[.agg (uc u A0 A1 A3 A4 A6 c0 c1 c3 c4 c6), .int .i64 er]) ∧ UpdC w' u A0 A1 A3 A4 A6 c0 c1 c3 c4 c6 ∧ DecA B u er := by
  by_cases h : B.length < 19
  · refine (decode_short w A B.length c h).mono ?_
    rintro e w' ⟨rfl, hb⟩
    exact ⟨hb, zU, 3, none, none, none, none, none, 0, 0, 0, 0, 0, rfl, UpdC.none w', FewU.none _, .inl ⟨h, rfl, rfl⟩⟩
  · refine (decode_long w A c B hC hc hu (by omega) hB).mono ?_
    rintro e w' ⟨hb, ⟨hn, rfl⟩ | ⟨u, v, hd, hf, hub, hE, ⟨A0, A1, A3, A4, A6, c0, c1, c3, c4, c6, rfl, r0, l0, r1, l1, r3, l3, r4, l4, r6, l6⟩, rfl⟩⟩
    · exact ⟨hb, zU, 4, none, none, none, none, none, 0, 0, 0, 0, 0, rfl, UpdC.none w', FewU.none _, .inr (.inl ⟨by omega, hn, rfl, rfl⟩)⟩
    · exact ⟨hb, u, 0, A0, A1, A3, A4, A6, c0, c1, c3, c4, c6, rfl, ⟨r0, l0, r1, l1, r3, l3, r4, l4, r6, l6⟩, hf, .inr (.inr ⟨hd, hub, hE, rfl⟩)⟩
section
variable {w : World} {u : S47} {A0 A1 A3 A4 A6 : Option Addr} {c0 c1 c3 c4 c6 : Nat}
set_option maxHeartbeats 8000000 in
set_option maxRecDepth 100000 in
theorem mine_pass2 (w : World) (A0 A1 A5 A6 A8 : Option Addr) (n0 n1 n5 n6 n8 c0 c1 c5 c6 c8 : Nat) (p m o f : Int) :
    Calls Try.prog 18 #[.agg #[.slice A0 n0 c0, .slice A1 n1 c1, .int .i64 p, .int .i64 m, .int .i64 o, .slice A5 n5 c5, .slice A6 n6 c6, .int .i64 f, .slice A8 n8 c8]] w fun e w' => e = .returned (.agg #[.slice A0 n0 c0, .slice A1 n1 c1, .int .i64 p, .int .i64 m, .int .i64 o, .slice A5 n5 c5, .slice A6 n6 c6, .int .i64 f, .slice A8 n8 c8]) ∧ Below w.heap.size w w' := by
  go_enter Try.func18, Try.ntmps18
  go_wp2
  refine bodyPost_ret (v := .agg #[.slice A0 n0 c0, .slice A1 n1 c1, .int .i64 p, .int .i64 m, .int .i64 o, .slice A5 n5 c5, .slice A6 n6 c6, .int .i64 f, .slice A8 n8 c8]) ?_ rfl ⟨rfl, ?_⟩
  · simp [results, Try.results18, go_sem]
  · exact ((Below.refl w.heap.size w).alloc (Nat.le_refl _) _).alloc (by simp) _
theorem enc17 (h : UpdC w u A0 A1 A3 A4 A6 c0 c1 c3 c4 c6) (hf : FewU u 100000) (b : List Int) (er : Int) (hr : (if updB u = true then (encB u, (0 : Int)) else ([], 1)) = (b, er)) : Calls Try.prog 17 #[.agg (uc u A0 A1 A3 A4 A6 c0 c1 c3 c4 c6)] w fun e w' => ∃ v0_ : Value, e = .returned (.tuple #[v0_, .int .i64 er]) ∧ Kd.R (Kd.int .u8) 5 w' w.heap.size (fun _ => True) v0_ b ∧ Below w.heap.size w w' := by
  obtain ⟨k, hk⟩ := (encX_ev u hf).ex
  rw [hr] at hk
  exact wire_Encode.calls k A0 c0 u.f0 A1 c1 u.f1 u.f2.f0 u.f2.f1 u.f2.f2 A3 c3 u.f2.f3 A4 c4 u.f2.f4 u.f2.f5 A6 c6 u.f2.f6 _ _ w h.r0 h.l0 h.r1 h.l1 h.r3 h.l3 h.r4 h.l4 h.r6 h.l6 hk
theorem lives9 (w : World) : Calls Try.prog 9 #[] w fun e w' => e = .returned (.bool true) ∧ Below w.heap.size w w' := by
  obtain ⟨k, hk⟩ := lives_ev.ex
  exact whirligiglaw10_lives.calls k true w hk
end
end Go.Proofs.Ytjmpojfpbhihpaa

end
section
namespace Go.Proofs.Ytjmpojfpbhihpaa
open Go.RowKit Go.Proofs.Ytjmpojfpbhihpaa.P Go.Proofs.YtjmpojfpbhihpaaW.PrintWords Go.Proofs.YtjmpojfpbhihpaaW.PrintLast Go.Proofs.YtjmpojfpbhihpaaW.PrintMore
set_option linter.unusedVariables false
set_option linter.unusedSimpArgs false

theorem few10_is (u : S47) : ∃ q, whirligiglaw10_few.f u.f0 u.f1 u.f2.f0 u.f2.f1 u.f2.f2 u.f2.f3 u.f2.f4 u.f2.f5 u.f2.f6 = some q ∧ (q = true → u.f0.length ≤ 100 ∧ u.f1.length ≤ 100 ∧ u.f2.f3.length ≤ 100 ∧ u.f2.f4.length ≤ 100 ∧ u.f2.f6.length ≤ 100) := by
  unfold whirligiglaw10_few.f whirligigref09_Few.f
  by_cases h1 : (u.f0.length : Int) ≤ 100
  · rw [if_pos h1]
    by_cases h2 : (u.f1.length : Int) ≤ 100
    · rw [if_pos h2]
      by_cases h3 : (u.f2.f3.length : Int) ≤ 100
      · rw [if_pos h3]
        by_cases h4 : (u.f2.f4.length : Int) ≤ 100
        · rw [if_pos h4]
          refine ⟨_, rfl, fun h => ?_⟩
          have h5 : (u.f2.f6.length : Int) ≤ 100 := of_decide_eq_true h
          exact ⟨by omega, by omega, by omega, by omega, by omega⟩
        · rw [if_neg h4]; exact ⟨false, rfl, fun h => by cases h⟩
      · rw [if_neg h3]; exact ⟨false, rfl, fun h => by cases h⟩
    · rw [if_neg h2]; exact ⟨false, rfl, fun h => by cases h⟩
  · rw [if_neg h1]; exact ⟨false, rfl, fun h => by cases h⟩
theorem few15 {w : World} {u : S47} {A0 A1 A3 A4 A6 : Option Addr} {c0 c1 c3 c4 c6 : Nat} (h : UpdC w u A0 A1 A3 A4 A6 c0 c1 c3 c4 c6) (a0 : ∀ x ∈ u.f0, isA x.f0) (a1 : ∀ x ∈ u.f1, isA x.f0) : Calls Try.prog 15 #[.agg (uc u A0 A1 A3 A4 A6 c0 c1 c3 c4 c6)] w fun e w' => ∃ q : Bool, e = .returned (.bool q) ∧ Below w.heap.size w w' ∧ (q = true → FewU u 100) := by
  obtain ⟨q, hq, hb⟩ := few10_is u
  refine (whirligiglaw10_few.calls A0 c0 u.f0 A1 c1 u.f1 u.f2.f0 u.f2.f1 u.f2.f2 A3 c3 u.f2.f3 A4 c4 u.f2.f4 u.f2.f5 A6 c6 u.f2.f6 q w h.r0 h.l0 h.r1 h.l1 h.r3 h.l3 h.r4 h.l4 h.r6 h.l6 hq).mono ?_
  rintro e w' ⟨rfl, hbw⟩
  exact ⟨q, rfl, hbw, fun e => ⟨(hb e).1, (hb e).2.1, (hb e).2.2.1, (hb e).2.2.2.1, (hb e).2.2.2.2, a0, a1⟩⟩
theorem FewU.up {u : S47} {n m : Nat} (h : FewU u n) (hn : n ≤ m) : FewU u m := ⟨by have := h.w; omega, by have := h.t; omega, by have := h.p; omega, by have := h.c; omega, by have := h.l; omega, h.a0, h.a1⟩
theorem encB_length (u : S47) : (encB u).length = 19 + (datB u).length := by unfold encB; rw [List.length_append, hd_len]
theorem hd_inj (a b : Int) (ha : 0 ≤ a ∧ a < 65536) (hb : 0 ≤ b ∧ b < 65536) (h : wire_framed.hd 2 a = wire_framed.hd 2 b) : a = b := by
  have h2 := congrArg (fun l => (l.drop 16).take 2) h
  have e : ∀ x, ((wire_framed.hd 2 x).drop 16).take 2 = [x / 256 % 256, x % 256] := fun x => rfl
  simp only [e, List.cons.injEq, and_true] at h2
  omega
theorem enc_take (u : S47) : (encB u).take 19 = wire_framed.hd 2 (19 + ((datB u).length : Int)) := by
  unfold encB
  rw [List.take_append_of_le_length (by rw [hd_len]; omega), List.take_of_length_le (by rw [hd_len]; omega)]
theorem enc_same_len {u v : S47} (hu : updB u = true) (hv : updB v = true) (h : (encB u).take 19 = (encB v).take 19) : (encB u).length = (encB v).length := by
  rw [enc_take, enc_take] at h
  have d1 := datB_len hu
  have d2 := datB_len hv
  have := hd_inj _ _ (by omega) (by omega) h
  rw [encB_length, encB_length]; omega
theorem cut_more {u v : S47} (hu : updB u = true) (hv : updB v = true) (x : Int) : encB v ≠ encB u ++ [x] := by
  intro h
  have hl := encB_length u
  have h2 := enc_same_len hu hv (by rw [h, List.take_append_of_le_length (by omega)])
  rw [h, List.length_append] at h2
  simp at h2
theorem cut_less {u v : S47} (hu : updB u = true) (hv : updB v = true) (n : Nat) (hn : n < (encB u).length) : encB v ≠ (encB u).take n := by
  intro h
  have hl := encB_length v
  have hll : ((encB u).take n).length = n := by rw [List.length_take]; omega
  have h19 : 19 ≤ n := by rw [h, hll] at hl; omega
  have h2 := enc_same_len hu hv (by rw [h, List.take_take]; congr 1; omega)
  rw [h, hll] at h2
  omega
theorem cut_turned {u v : S47} (hu : updB u = true) (hv : updB v = true) (n : Nat) (hn : n < 19) (x : Int) (hx : (encB u)[n]? ≠ some x) : encB v ≠ (encB u).set n x := by
  intro h
  have hlu := encB_length u
  have hlv := encB_length v
  have e : (encB v).length = (encB u).length := by rw [h, List.length_set]
  have t : (encB u).take 19 = (encB v).take 19 := by rw [enc_take, enc_take]; congr 1; omega
  have e1 : ((encB v).take 19)[n]? = some x := by
    rw [h, List.getElem?_take, if_pos hn, List.getElem?_set_self (by omega)]
  rw [← t, List.getElem?_take, if_pos hn] at e1
  exact hx e1
theorem xor8 (a b : Int) (ha : 0 ≤ a ∧ a ≤ 255) (hb : 0 ≤ b ∧ b ≤ 255) (h0 : b ≠ 0) : Go.bits .xor .u8 a b ≠ a ∧ 0 ≤ Go.bits .xor .u8 a b ∧ Go.bits .xor .u8 a b ≤ 255 := by
  obtain ⟨x, rfl⟩ := Int.eq_ofNat_of_zero_le ha.1
  obtain ⟨y, rfl⟩ := Int.eq_ofNat_of_zero_le hb.1
  have e : Go.bits .xor .u8 (x : Int) (y : Int) = IntKind.u8.wrap ((BitVec.ofInt 8 (x : Int) ^^^ BitVec.ofInt 8 (y : Int)).toNat : Int) := rfl
  rw [e, show BitVec.ofInt 8 (x : Int) = BitVec.ofNat 8 x by simp, show BitVec.ofInt 8 (y : Int) = BitVec.ofNat 8 y by simp, BitVec.toNat_xor, BitVec.toNat_ofNat, BitVec.toNat_ofNat, Nat.mod_eq_of_lt (by omega), Nat.mod_eq_of_lt (by omega)]
  have hlt : x ^^^ y < 2 ^ 8 := Nat.xor_lt_two_pow (by omega) (by omega)
  have hw : IntKind.u8.wrap ((x ^^^ y : Nat) : Int) = ((x ^^^ y : Nat) : Int) := by
    show _ % 256 = _
    omega
  rw [hw]
  refine ⟨fun h => h0 ?_, by omega, by omega⟩
  have h1 : x ^^^ y = x := by omega
  have h2 : x ^^^ (x ^^^ y) = x ^^^ x := by rw [h1]
  rw [← Nat.xor_assoc, Nat.xor_self, Nat.zero_xor] at h2
  omega

theorem decA_no {B : List Int} {u : S47} {er : Int} (h : DecA B u er) (hn : ∀ v, updB v = true → encB v ≠ B) : er ≠ 0 := by
  obtain ⟨_, ⟨_, _, rfl⟩ | ⟨_, _, _, rfl⟩ | ⟨_, h2, h3, _⟩⟩ := h
  · decide
  · decide
  · exact absurd h3 (hn u h2)
theorem cells_of_C {w : World} {ad : Addr} {E : List Int} (h : Kd.C (Kd.int .u8) w (some ad) E.length E) : ∀ j x, (nums .u8 E)[j]? = some x → w.cell? (ad.add j) = some x := by
  intro j x hj
  have hc := Kd.reads_of_C (d := (0 : Int)) h
  have hjl : j < E.length := by have := (List.getElem?_eq_some_iff.1 hj).1; rwa [nums_length] at this
  obtain ⟨ad', had, hcc⟩ := hc.2.2 (by omega)
  injection had with had
  subst had
  rw [hcc j hjl]
  unfold nums at hj
  rw [List.getElem?_map, List.getElem?_eq_getElem hjl] at hj
  rw [List.getD_eq_getElem?_getD, List.getElem?_eq_getElem hjl]
  exact hj
theorem decode_no (wx : World) (B : List Int) (Ax : Option Addr) (cx : Nat) (hl : B.length ≤ 100000) (hu : U8 B) (hC : Kd.C (Kd.int .u8) wx Ax B.length B) (hc : B.length ≤ cx) (hn : ∀ v, updB v = true → encB v ≠ B) :
    Calls Try.prog 20 #[.slice Ax B.length cx] wx fun e w' => Below wx.heap.size wx w' ∧ ∃ (D0 D1 D3 D4 D6 : Option Addr) (m0 m1 m3 m4 m6 d0 d1 d3 d4 d6 : Nat) (i0 i1 i2 i3 er : Int), e = .returned (.tuple #[.agg #[.slice D0 m0 d0, .slice D1 m1 d1, .int .i64 i0, .int .i64 i1, .int .i64 i2, .slice D3 m3 d3, .slice D4 m4 d4, .int .i64 i3, .slice D6 m6 d6], .int .i64 er]) ∧ er ≠ 0 := by
  refine (decode_calls wx Ax cx B hC hc hu hl).mono ?_
  rintro e w' ⟨hb, v, er, B0, B1, B3, B4, B6, d0, d1, d3, d4, d6, rfl, _, hd⟩
  exact ⟨hb, B0, B1, B3, B4, B6, _, _, _, _, _, d0, d1, d3, d4, d6, _, _, _, _, er, rfl, decA_no hd hn⟩
theorem row_of_own {w : World} {base : Nat} {v : Value} {E : List Int} {x : Int} (h : w.ownsRow base 5 1 v (E.length + 1) (nums .u8 E ++ [.int .u8 x])) : ∃ A c, v = .slice A (E ++ [x]).length c ∧ (E ++ [x]).length ≤ c ∧ Kd.C (Kd.int .u8) w A (E ++ [x]).length (E ++ [x]) := by
  have h' : w.ownsRow base 5 1 v (E ++ [x]).length (encs (Value.int .u8) (E ++ [x])) := by simpa [encs, nums] using h
  exact Kd.R_reads (Kd.R_of_own (h1 := fun _ => rfl) (ok := fun _ => True) h' (fun _ _ => trivial))
theorem one_cell (w : World) (x : Value) : ∀ j y, [x][j]? = some y → (w.alloc (.cells #[x] 5)).cell? ((⟨w.heap.size, 0, none⟩ : Addr).add j) = some y := by
  intro j y hj
  match j with
  | 0 =>
    simp at hj
    subst hj
    exact blk_cell (heap_alloc_new w _) 0
  | j + 1 => simp at hj
theorem grown_below {w w' : World} (h : w.grownBy w' none) : Below w.heap.size w w' := ⟨h.os, h.tape, h.output, h.size, fun b hb => h.block b hb (by simp)⟩
theorem C_take {w : World} {A : Option Addr} {E : List Int} (h : Kd.C (Kd.int .u8) w A E.length E) (n : Nat) (hn : n ≤ E.length) : Kd.C (Kd.int .u8) w A (E.take n).length (E.take n) := by
  have hc := Kd.reads_of_C (d := (0 : Int)) h
  refine Kd.C_of_reads (h1 := fun _ => rfl) (d := (0 : Int)) ⟨rfl, by have := hc.2.1; rw [List.length_take]; omega, fun hp => ?_⟩
  have hl : (E.take n).length = n := by rw [List.length_take]; omega
  obtain ⟨ad, had, hcc⟩ := hc.2.2 (by omega)
  refine ⟨ad, had, fun j hj => ?_⟩
  rw [hcc j (by omega), List.getD_eq_getElem?_getD, List.getD_eq_getElem?_getD, List.getElem?_take, if_pos (by omega)]
theorem row_of_own2 {w : World} {base g n cap : Nat} {E : List Int} (h : w.ownsRow base 5 1 (.slice (some ⟨g, 0, none⟩) n cap) n (nums .u8 E)) (hn : n = E.length) : E.length ≤ cap ∧ Kd.C (Kd.int .u8) w (some ⟨g, 0, none⟩) E.length E := by
  subst hn
  have r := Kd.R_reads' (Kd.R_of_own (enc := Value.int .u8) (h1 := fun _ => rfl) (ok := fun _ => True) (xs := E) h (fun _ _ => trivial))
  exact ⟨r.2.1, r.2.2⟩
theorem U8.set {E : List Int} (h : U8 E) (n : Nat) (x : Int) (hx : 0 ≤ x ∧ x ≤ 255) : U8 (E.set n x) := fun y hy => by
  rcases List.mem_or_eq_of_mem_set hy with hy | rfl
  · exact h y hy
  · exact hx
theorem rd_get {E : List Int} {n : Nat} (h : n < E.length) : E[n]? = some (rd E (n : Int)) := by
  unfold rd
  rw [Int.toNat_natCast, List.getD_eq_getElem?_getD, List.getElem?_eq_getElem h]; rfl
end Go.Proofs.Ytjmpojfpbhihpaa

end
section
namespace Go.Proofs.Ytjmpojfpbhihpaa
open Go.RowKit Go.Proofs.Ytjmpojfpbhihpaa.P Go.Proofs.YtjmpojfpbhihpaaW.PrintWords Go.Proofs.YtjmpojfpbhihpaaW.PrintLast Go.Proofs.YtjmpojfpbhihpaaW.PrintMore
set_option linter.unusedVariables false
set_option linter.unusedSimpArgs false

set_option maxHeartbeats 16000000 in
set_option maxRecDepth 100000 in
theorem cuts_calls (w : World) (u : S47) (A0 A1 A3 A4 A6 : Option Addr) (c0 c1 c3 c4 c6 : Nat) (h : UpdC w u A0 A1 A3 A4 A6 c0 c1 c3 c4 c6) (a0 : ∀ x ∈ u.f0, isA x.f0) (a1 : ∀ x ∈ u.f1, isA x.f0) (cut by_ : Int) (hcut : -9223372036854775808 ≤ cut ∧ cut ≤ 9223372036854775807) (hby : 0 ≤ by_ ∧ by_ ≤ 255) :
    Calls Try.prog 7 #[.agg #[.slice A0 u.f0.length c0, .slice A1 u.f1.length c1, .int .i64 u.f2.f0, .int .i64 u.f2.f1, .int .i64 u.f2.f2, .slice A3 u.f2.f3.length c3, .slice A4 u.f2.f4.length c4, .int .i64 u.f2.f5, .slice A6 u.f2.f6.length c6], .int .i64 cut, .int .u8 by_] w fun e w' => e = .returned (.bool true) ∧ Below w.heap.size w w' := by
  obtain ⟨W, hW⟩ : ∃ W, W = w.alloc (.cells #[.slice A0 u.f0.length c0, .slice A1 u.f1.length c1, .int .i64 u.f2.f0, .int .i64 u.f2.f1, .int .i64 u.f2.f2, .slice A3 u.f2.f3.length c3, .slice A4 u.f2.f4.length c4, .int .i64 u.f2.f5, .slice A6 u.f2.f6.length c6] 43) := ⟨_, rfl⟩
  obtain ⟨gb, hgb⟩ : ∃ g, g = w.heap.size := ⟨_, rfl⟩
  have hb0 : Below w.heap.size w W := by rw [hW]; exact below_allocs (Below.refl _ w) (Nat.le_refl _) _
  have k0 : W.heap[gb]? = some (.cells #[.slice A0 u.f0.length c0, .slice A1 u.f1.length c1, .int .i64 u.f2.f0, .int .i64 u.f2.f1, .int .i64 u.f2.f2, .slice A3 u.f2.f3.length c3, .slice A4 u.f2.f4.length c4, .int .i64 u.f2.f5, .slice A6 u.f2.f6.length c6] 43 (0, 0)) := by rw [hW, hgb]; exact heap_alloc_new w _
  have x0 : W.cell? ⟨gb, 0, none⟩ = some (.slice A0 u.f0.length c0) := blk_cell k0 0
  have x1 : W.cell? ⟨gb, 1, none⟩ = some (.slice A1 u.f1.length c1) := blk_cell k0 1
  have x2 : W.cell? ⟨gb, 2, none⟩ = some (.int .i64 u.f2.f0) := blk_cell k0 2
  have x3 : W.cell? ⟨gb, 3, none⟩ = some (.int .i64 u.f2.f1) := blk_cell k0 3
  have x4 : W.cell? ⟨gb, 4, none⟩ = some (.int .i64 u.f2.f2) := blk_cell k0 4
  have x5 : W.cell? ⟨gb, 5, none⟩ = some (.slice A3 u.f2.f3.length c3) := blk_cell k0 5
  have x6 : W.cell? ⟨gb, 6, none⟩ = some (.slice A4 u.f2.f4.length c4) := blk_cell k0 6
  have x7 : W.cell? ⟨gb, 7, none⟩ = some (.int .i64 u.f2.f5) := blk_cell k0 7
  have x8 : W.cell? ⟨gb, 8, none⟩ = some (.slice A6 u.f2.f6.length c6) := blk_cell k0 8
  have hU := h.below hb0
  have hfw := mkHid (few15 hU a0 a1)
  have HU := mkHid hU
  have HK := mkHid k0
  have HB := mkHid hb0
  clear hU k0 hb0 h
  go_enter Try.func7, Try.ntmps7
  go_wp2_with fail
  rw [← hW, ← hgb]
  have hgs : w.heap.size ≤ gb := by omega
  clear hW hgb
  refine hfw.out.mono ?_
  rintro e w1 ⟨q, rfl, hb1, hq⟩
  have HB1 : Hid (Below w.heap.size w w1) := mkHid (HB.out.trans (hb1.mono HB.out.size))
  cases q with
  | false =>
    clear hb1 hq x0 x1 x2 x3 x4 x5 x6 x7 x8
    go_wp2_with fail
    refine (lives9 _).mono ?_
    rintro e w2 ⟨rfl, hb2⟩
    have HB2 : Hid (Below w.heap.size w w2) := mkHid (HB1.out.trans (hb2.mono HB1.out.size))
    clear hb2
    go_wp2_with fail
    go_ret
    exact ⟨rfl, HB2.out⟩
  | true =>
    have hf := hq rfl
    have k1 := (hb1.block gb (Array.getElem?_eq_some_iff.1 HK.out).1).trans HK.out
    have y0 : w1.cell? ⟨gb, 0, none⟩ = some (.slice A0 u.f0.length c0) := blk_cell k1 0
    have y1 : w1.cell? ⟨gb, 1, none⟩ = some (.slice A1 u.f1.length c1) := blk_cell k1 1
    have y2 : w1.cell? ⟨gb, 2, none⟩ = some (.int .i64 u.f2.f0) := blk_cell k1 2
    have y3 : w1.cell? ⟨gb, 3, none⟩ = some (.int .i64 u.f2.f1) := blk_cell k1 3
    have y4 : w1.cell? ⟨gb, 4, none⟩ = some (.int .i64 u.f2.f2) := blk_cell k1 4
    have y5 : w1.cell? ⟨gb, 5, none⟩ = some (.slice A3 u.f2.f3.length c3) := blk_cell k1 5
    have y6 : w1.cell? ⟨gb, 6, none⟩ = some (.slice A4 u.f2.f4.length c4) := blk_cell k1 6
    have y7 : w1.cell? ⟨gb, 7, none⟩ = some (.int .i64 u.f2.f5) := blk_cell k1 7
    have y8 : w1.cell? ⟨gb, 8, none⟩ = some (.slice A6 u.f2.f6.length c6) := blk_cell k1 8
    have HF := mkHid hf
    have hU1 := HU.out.below hb1
    have hmi := mkHid (mine_pass2 w1 A0 A1 A3 A4 A6 u.f0.length u.f1.length u.f2.f3.length u.f2.f4.length u.f2.f6.length c0 c1 c3 c4 c6 u.f2.f0 u.f2.f1 u.f2.f2 u.f2.f5)
    have HU1 := mkHid hU1
    clear hb1 hq hf k1 hU1 x0 x1 x2 x3 x4 x5 x6 x7 x8 HU HK hfw
    go_wp2_with fail
    refine hmi.out.mono ?_
    rintro e w2 ⟨rfl, hb2⟩
    obtain ⟨E, er, hr⟩ : ∃ (b : List Int) (er : Int), (if updB u = true then (encB u, (0 : Int)) else ([], 1)) = (b, er) := ⟨_, _, rfl⟩
    have hen := mkHid (enc17 (HU1.out.below hb2) (FewU.up HF.out (by omega)) E er hr)
    have HB2 : Hid (Below w.heap.size w w2) := mkHid (HB1.out.trans (hb2.mono HB1.out.size))
    have HR := mkHid hr
    clear hb2 hr y0 y1 y2 y3 y4 y5 y6 y7 y8 hmi
    go_wp2_with fail
    refine hen.out.mono ?_
    rintro e w3 ⟨v3, rfl, hR3, hb3⟩
    have HB3 : Hid (Below w.heap.size w w3) := mkHid (HB2.out.trans (hb3.mono HB2.out.size))
    have HR3 := mkHid (Kd.R_lower hR3 HB2.out.size)
    clear hb3 hen
    by_cases hub : updB u = true
    case neg =>
      have hr := HR.out
      rw [if_neg hub] at hr
      injection hr with e1 e2
      subst e1 e2
      obtain ⟨AE, cE, rfl⟩ := Kd.R_slice hR3
      clear hR3
      go_wp2_with fail
      refine (lives9 _).mono ?_
      rintro e w4 ⟨rfl, hb4⟩
      have HB4 : Hid (Below w.heap.size w w4) := mkHid (HB3.out.trans (hb4.mono HB3.out.size))
      clear hb4
      go_wp2_with fail
      go_ret
      exact ⟨rfl, HB4.out⟩
    have hr := HR.out
    rw [if_pos hub] at hr
    injection hr with e1 e2
    subst e2
    have HE := mkHid e1
    clear e1 HR
    have hln : 19 ≤ E.length ∧ E.length ≤ 1000 := by have := datB_len hub; rw [← HE.out, encB_length]; omega
    obtain ⟨inner, hrow⟩ := Kd.R_own hR3
    obtain ⟨q1, ⟨q2, hz⟩ | ⟨gE, cE, cur, rfl, q3⟩⟩ := hrow
    · omega
    have hAE := (Kd.R_reads' HR3.out).2.1
    obtain ⟨i0, hi0, hz0, hsz0, hby0⟩ := info_parts info5
    have hcl : Hid (∀ wx, Below w3.heap.size w3 wx → ∀ j x, (nums .u8 E)[j]? = some x → wx.cell? ((⟨gE, 0, none⟩ : Addr).add j) = some x) := mkHid (fun wx hb => cells_of_C (Kd.C_below (Kd.R_reads' HR3.out).2.2 hb))
    have HUE : Hid (U8 E) := mkHid (by rw [← HE.out]; exact encB_u8 hub)
    have HI0 := mkHid hi0
    have HZ0 := mkHid hz0
    have HS0 := mkHid hsz0
    have HY0 := mkHid hby0
    clear hR3 hi0 hz0 hsz0 hby0 q1 q3 cur inner
    go_wp2_with (at_builtin; refine wpList_append_grows _ rfl (.tmp 34) (.tmp 36) 22 rfl 5 i0 (.int .u8 0) 1 1 Try.underlying22 HI0.out HZ0.out HS0.out HY0.out rfl (by decide) (some ⟨gE, 0, none⟩) E.length E.length (nums .u8 E) rfl ?a1 ?a2 ?a3 ⟨w3.heap.size, 0, none⟩ 1 1 [.int .u8 by_] rfl rfl ?a4 ?a5 ?a6 ?a7 ?a8 ?a9; (case a1 => intro h; cases h); (case a2 => rw [nums_length, Nat.mul_one]); (case a3 => intro b hb j x hj; injection hb with hb; subst hb; exact hcl.out _ (below_alloc (Below.refl _ _) _) j x hj); (case a4 => exact one_cell w3 _); (case a5 => intro x hx; rw [List.mem_singleton.1 hx]; rfl); (case a6 => omega); (case a7 => unfold maxLen; omega); (case a8 => omega); intro v5 w5 ho5 hg5)
    obtain ⟨A5, c5, rfl, hc5, hC5⟩ := row_of_own ho5
    have hb35 : Below w3.heap.size w3 w5 := (below_alloc (Below.refl _ w3) _).trans ((grown_below hg5).mono (by simp))
    have HB5 : Hid (Below w.heap.size w w5) := mkHid (HB3.out.trans (hb35.mono HB3.out.size))
    have HR5 := mkHid (Kd.R_below HR3.out hb35)
    have hd5 := mkHid (decode_no w5 (E ++ [by_]) A5 c5 (by rw [List.length_append]; simp; omega) (U8.app HUE.out (fun x hx => by rw [List.mem_singleton.1 hx]; exact hby)) hC5 hc5 (fun v hv he => cut_more hub hv by_ (by rw [HE.out]; exact he)))
    clear ho5 hg5 hc5 hC5 hb35
    refine hd5.out.mono ?_
    rintro e w6 ⟨hb6, D0, D1, D3, D4, D6, m0, m1, m3, m4, m6, d0, d1, d3, d4, d6, j0, j1, j2, j3, er, rfl, her⟩
    obtain ⟨X, hX⟩ : ∃ X, X = w6.alloc (.cells #[.slice D0 m0 d0, .slice D1 m1 d1, .int .i64 j0, .int .i64 j1, .int .i64 j2, .slice D3 m3 d3, .slice D4 m4 d4, .int .i64 j3, .slice D6 m6 d6] 47) := ⟨_, rfl⟩
    have hbX : Below w5.heap.size w5 X := by rw [hX]; exact below_alloc hb6 _
    have HBX : Hid (Below w.heap.size w X) := mkHid (HB5.out.trans (hbX.mono HB5.out.size))
    have HRX := mkHid (Kd.R_below HR5.out hbX)
    have hne : decide (er = 0) = false := decide_eq_false her
    have hne2 : (er == 0) = false := beq_eq_false_iff_ne.mpr her
    clear hb6 hbX hd5
    by_cases hlo : cut < 0
    · have hl1 : decide (cut < 0) = true := decide_eq_true hlo
      go_wp2_with fail
      rw [← hX]
      clear hX
      refine (lives9 _).mono ?_
      rintro e w7 ⟨rfl, hb7⟩
      have HB7 : Hid (Below w.heap.size w w7) := mkHid (HBX.out.trans (hb7.mono HBX.out.size))
      clear hb7
      go_wp2_with fail
      go_ret
      exact ⟨rfl, HB7.out⟩
    have hl1 : decide (cut < 0) = false := decide_eq_false hlo
    by_cases hhi : (E.length : Int) ≤ cut
    · have hl2 : decide ((E.length : Int) ≤ cut) = true := decide_eq_true hhi
      have hl3 : decide (cut ≥ (E.length : Int)) = true := decide_eq_true hhi
      go_wp2_with fail
      rw [← hX]
      clear hX
      refine (lives9 _).mono ?_
      rintro e w7 ⟨rfl, hb7⟩
      have HB7 : Hid (Below w.heap.size w w7) := mkHid (HBX.out.trans (hb7.mono HBX.out.size))
      clear hb7
      go_wp2_with fail
      go_ret
      exact ⟨rfl, HB7.out⟩
    have hl2 : decide ((E.length : Int) ≤ cut) = false := decide_eq_false hhi
    have hl3 : decide (cut ≥ (E.length : Int)) = false := decide_eq_false hhi
    obtain ⟨n, hn⟩ : ∃ n : Nat, cut = (n : Int) := ⟨cut.toNat, by omega⟩
    have hnl : n < E.length := by omega
    subst hn
    have htl : (E.take n).length = n := by rw [List.length_take]; omega
    have hd7 := decode_no X (E.take n) (some ⟨gE, 0, none⟩) cE (by omega) (HUE.out.take n) (C_take (Kd.R_reads' HRX.out).2.2 n (by omega)) (by omega) (fun v hv he => cut_less hub hv n (by rw [HE.out]; exact hnl) (by rw [HE.out]; exact he))
    rw [htl] at hd7
    have HD7 := mkHid hd7
    clear hd7 htl
    go_wp2_with fail
    rw [← hX]
    clear hX hl1 hl2 hl3 hne hne2 her
    refine HD7.out.mono ?_
    rintro e w8 ⟨hb8, F0, F1, F3, F4, F6, p0, p1, p3, p4, p6, q0, q1, q3, q4, q6, i0, i1, i2, i3, er8, rfl, her⟩
    obtain ⟨Y, hY⟩ : ∃ X, X = w8.alloc (.cells #[.slice F0 p0 q0, .slice F1 p1 q1, .int .i64 i0, .int .i64 i1, .int .i64 i2, .slice F3 p3 q3, .slice F4 p4 q4, .int .i64 i3, .slice F6 p6 q6] 47) := ⟨_, rfl⟩
    have hbY : Below X.heap.size X Y := by rw [hY]; exact below_alloc hb8 _
    have HBY : Hid (Below w.heap.size w Y) := mkHid (HBX.out.trans (hbY.mono HBX.out.size))
    have HRY := mkHid (Kd.R_below HRX.out hbY)
    have hne : decide (er8 = 0) = false := decide_eq_false her
    have hne2 : (er8 == 0) = false := beq_eq_false_iff_ne.mpr her
    clear hb8 hbY HD7
    by_cases h19 : n < 19
    case neg =>
      have hd19 : decide ((n : Int) < 19) = false := decide_eq_false (by omega)
      go_wp2_with fail
      rw [← hY]
      clear hY
      refine (lives9 _).mono ?_
      rintro e w7 ⟨rfl, hb7⟩
      have HB7 : Hid (Below w.heap.size w w7) := mkHid (HBY.out.trans (hb7.mono HBY.out.size))
      clear hb7
      go_wp2_with fail
      go_ret
      exact ⟨rfl, HB7.out⟩
    have hd19 : decide ((n : Int) < 19) = true := decide_eq_true (by omega)
    by_cases hby0 : by_ = 0
    · have hdb : decide (by_ = 0) = true := decide_eq_true hby0
      have hdb2 : (by_ == 0) = true := beq_iff_eq.mpr hby0
      have hdb3 : (by_ != 0) = false := by rw [bne, hdb2]; rfl
      go_wp2_with fail
      rw [← hY]
      clear hY
      refine (lives9 _).mono ?_
      rintro e w7 ⟨rfl, hb7⟩
      have HB7 : Hid (Below w.heap.size w w7) := mkHid (HBY.out.trans (hb7.mono HBY.out.size))
      clear hb7
      go_wp2_with fail
      go_ret
      exact ⟨rfl, HB7.out⟩
    have hdb : decide (by_ = 0) = false := decide_eq_false hby0
    have hdb2 : (by_ == 0) = false := beq_eq_false_iff_ne.mpr hby0
    have hdb3 : (by_ != 0) = true := by rw [bne, hdb2]; rfl
    have hoY : Y.ownsRow w.heap.size 5 1 (.slice (some ⟨gE, 0, none⟩) E.length cE) E.length (nums .u8 E) := Kd.own_of_R HRY.out
    obtain ⟨hc1, hf1⟩ := own_at hoY (n : Int) (by omega) (by omega)
    rw [Int.toNat_natCast] at hc1 hf1
    rw [hY] at hc1 hf1
    have HOY := mkHid hoY
    clear hoY
    go_wp2_with fail
    rw [← hY]
    clear hc1 hf1 hY hdb hdb2 hdb3 hd19 hne hne2 her
    have hge := own_base HOY.out gE rfl
    have hst := (own_store HOY.out (n : Int) (Go.bits .xor .u8 (rd E (n : Int)) by_)).1
    have hrng := HUE.out (rd E (n : Int)) (List.mem_of_getElem? (rd_get hnl))
    obtain ⟨hx1, hx2⟩ := xor8 (rd E (n : Int)) by_ hrng hby hby0
    obtain ⟨x, hx⟩ : ∃ x, x = Go.bits .xor .u8 (rd E (n : Int)) by_ := ⟨_, rfl⟩
    rw [← hx] at hst hx1 hx2 ⊢
    rw [Int.toNat_natCast] at hst
    have hrw := row_of_own2 hst (by rw [List.length_set])
    have hd9 := decode_no _ (E.set n x) _ cE (by rw [List.length_set]; omega) (U8.set HUE.out n x hx2) hrw.2 hrw.1 (fun v hv he => cut_turned hub hv n h19 x (by rw [HE.out, rd_get hnl]; intro e; injection e with e; exact hx1 e.symm) (by rw [HE.out]; exact he))
    rw [List.length_set] at hd9
    obtain ⟨Z, hZ⟩ : ∃ Z, Z = Y.setCell ⟨gE, n, none⟩ (.int .u8 x) := ⟨_, rfl⟩
    have hBZ := below_set HBY.out hge n (.int .u8 x)
    rw [← hZ] at hd9 hBZ ⊢
    have HBZ := mkHid hBZ
    have HD9 := mkHid hd9
    clear hst hrw hd9 hBZ hZ hx hx1 hx2 hrng hge HOY
    refine HD9.out.mono ?_
    rintro e w10 ⟨hb10, F0, F1, F3, F4, F6, p0, p1, p3, p4, p6, q0, q1, q3, q4, q6, i0, i1, i2, i3, er10, rfl, her⟩
    obtain ⟨V, hX⟩ : ∃ X, X = w10.alloc (.cells #[.slice F0 p0 q0, .slice F1 p1 q1, .int .i64 i0, .int .i64 i1, .int .i64 i2, .slice F3 p3 q3, .slice F4 p4 q4, .int .i64 i3, .slice F6 p6 q6] 47) := ⟨_, rfl⟩
    have hbV : Below Z.heap.size Z V := by rw [hX]; exact below_alloc hb10 _
    have HBV : Hid (Below w.heap.size w V) := mkHid (HBZ.out.trans (hbV.mono HBZ.out.size))
    have hne : decide (er10 = 0) = false := decide_eq_false her
    have hne2 : (er10 == 0) = false := beq_eq_false_iff_ne.mpr her
    clear hb10 hbV HD9
    go_wp2_with fail
    rw [← hX]
    clear hX
    refine (lives9 _).mono ?_
    rintro e w11 ⟨rfl, hb11⟩
    have HB11 : Hid (Below w.heap.size w w11) := mkHid (HBV.out.trans (hb11.mono HBV.out.size))
    clear hb11
    go_wp2_with fail
    go_ret
    exact ⟨rfl, HB11.out⟩
end Go.Proofs.Ytjmpojfpbhihpaa

end
section
namespace Go.Proofs.Ytjmpojfpbhihpaa.P
open Go.RowKit Go.Proofs.YtjmpojfpbhihpaaW.PrintWords Go.Proofs.YtjmpojfpbhihpaaW.PrintLast Go.Proofs.YtjmpojfpbhihpaaW.PrintMore
attribute [local go_sem] max2_int min2_int max_two min_two max_three min_three max_four min_four   -- for this text's walks alone
set_option linter.unusedVariables false
set_option linter.unusedSimpArgs false

def whirligiglaw10_WireCuts.f (k : Nat) (l0_0 : List (S25)) (l0_1 : List (S25)) (a0_2 : Int) (a0_3 : Int) (a0_4 : Int) (l0_5 : List Int) (l0_6 : List (S102)) (a0_7 : Int) (l0_8 : List Int) (a1 : Int) (a2 : Int) : Option (Bool) := if ((l0_0.all fun x => decide (0 ≤ x.f0) && decide (x.f0 ≤ 4294967295)) && ((l0_1.all fun x => decide (0 ≤ x.f0) && decide (x.f0 ≤ 4294967295)) && ((decide (-9223372036854775808 ≤ a1) && decide (a1 ≤ 9223372036854775807)) && (decide (0 ≤ a2) && decide (a2 ≤ 255))))) = true then some true else none
theorem whirligiglaw10_WireCuts.calls (k : Nat) (A0_0 : Option Addr) (c0_0 : Nat) (l0_0 : List (S25)) (A0_1 : Option Addr) (c0_1 : Nat) (l0_1 : List (S25)) (a0_2 : Int) (a0_3 : Int) (a0_4 : Int) (A0_5 : Option Addr) (c0_5 : Nat) (l0_5 : List Int) (A0_6 : Option Addr) (c0_6 : Nat) (l0_6 : List (S102)) (a0_7 : Int) (A0_8 : Option Addr) (c0_8 : Nat) (l0_8 : List Int) (a1 : Int) (a2 : Int) (r : Bool) (w : World) (hr0_0 : Kd.C k25 w A0_0 l0_0.length l0_0) (hc0_0 : l0_0.length ≤ c0_0) (hr0_1 : Kd.C k25 w A0_1 l0_1.length l0_1) (hc0_1 : l0_1.length ≤ c0_1) (hr0_5 : Kd.C (Kd.int .i64) w A0_5 l0_5.length l0_5) (hc0_5 : l0_5.length ≤ c0_5) (hr0_6 : Kd.C k102 w A0_6 l0_6.length l0_6) (hc0_6 : l0_6.length ≤ c0_6) (hr0_8 : Kd.C (Kd.int .i64) w A0_8 l0_8.length l0_8) (hc0_8 : l0_8.length ≤ c0_8) (h : whirligiglaw10_WireCuts.f k l0_0 l0_1 a0_2 a0_3 a0_4 l0_5 l0_6 a0_7 l0_8 a1 a2 = some r) :
    Calls Try.prog 7 #[.agg #[.slice A0_0 l0_0.length c0_0, .slice A0_1 l0_1.length c0_1, .int .i64 a0_2, .int .i64 a0_3, .int .i64 a0_4, .slice A0_5 l0_5.length c0_5, .slice A0_6 l0_6.length c0_6, .int .i64 a0_7, .slice A0_8 l0_8.length c0_8], .int .i64 a1, .int .u8 a2] w fun e w' => e = .returned (.bool r) ∧ Below w.heap.size w w' := by
  unfold whirligiglaw10_WireCuts.f at h
  split at h
  · rename_i hb
    obtain rfl := Option.some.inj h
    simp only [Bool.and_eq_true, List.all_eq_true, decide_eq_true_eq] at hb
    exact cuts_calls w ⟨l0_0, l0_1, ⟨a0_2, a0_3, a0_4, l0_5, l0_6, a0_7, l0_8⟩⟩ A0_0 A0_1 A0_5 A0_6 A0_8 c0_0 c0_1 c0_5 c0_6 c0_8 ⟨hr0_0, hc0_0, hr0_1, hc0_1, hr0_5, hc0_5, hr0_6, hc0_6, hr0_8, hc0_8⟩ (fun x hx => hb.1 x hx) (fun x hx => hb.2.1 x hx) a1 a2 hb.2.2.1 hb.2.2.2
  · cases h

end Go.Proofs.Ytjmpojfpbhihpaa.P

end
section
set_option linter.unusedVariables false
set_option linter.unusedSimpArgs false
namespace Go.Proofs.Ytjmpojfpbhihpaa
open Go.ChangeShapes Go.WideShapes Go.Proofs.YtjmpojfpbhihpaaW.PrintWords Go.Proofs.YtjmpojfpbhihpaaW.PrintLast Go.Proofs.YtjmpojfpbhihpaaW.PrintMore

/-- the ints of a kind -/
def okI (k : IntKind) (n : Int) : Prop := (Lit.int k n).wf = true
def okL {α : Type} (B : Nat) (ok : α → Prop) (l : List α) : Prop := l.length * B ≤ 140737488351232 ∧ ∀ x, x ∈ l → ok x
theorem okI_i64 {n : Int} (h : okI .i64 n) : -9223372036854775808 ≤ n ∧ n ≤ 9223372036854775807 := by
  unfold okI Lit.wf at h; simp [IntKind.min, IntKind.max, IntKind.bits, IntKind.signed] at h; omega
theorem okI_u32 {n : Int} (h : okI .u32 n) : 0 ≤ n ∧ n ≤ 4294967295 := by
  unfold okI Lit.wf at h; simp [IntKind.min, IntKind.max, IntKind.bits, IntKind.signed] at h; omega
theorem okI_u8 {n : Int} (h : okI .u8 n) : 0 ≤ n ∧ n ≤ 255 := by
  unfold okI Lit.wf at h; simp [IntKind.min, IntKind.max, IntKind.bits, IntKind.signed] at h; omega

/-- A reading of a type. -/
structure RV (P : Program) (t : TypeId) (α : Type) (d : Kd α) where
  ok : α → Prop
  sz : P.cellsOf t = d.sz
  opens : ∀ {H : Type} {enc : TypeId × Value → H} {w : World} {base : Nat} {spare : Nat → Bool} {held : Bool} {fuel : Nat} {cs : List Value} {x : DataW H × List MemPlace},
    DataW.trod enc P w base spare held fuel t cs = some x → (x.1.weights P t).all (· ≤ reachBytes) = true → ∃ a, d.K w a cs ∧ ok a
/-- A reading of a stretch of fields. -/
structure RF (P : Program) (fs : List Field) (off : Nat) (α : Type) where
  K : World → α → List Value → Prop
  ok : α → Prop
  opens : ∀ {H : Type} {enc : TypeId × Value → H} {w : World} {base : Nat} {spare : Nat → Bool} {held : Bool} {fuel : Nat} {cs : List Value} {ds : List (DataW H × List MemPlace)}, off ≤ cs.length →
    (∀ f, f ∈ fs → f.offset + P.cellsOf f.type ≤ cs.length) → (∀ (i : Nat) (f : Field), fs[i]? = some f → ∃ y, ds[i]? = some y ∧ DataW.trod enc P w base spare held fuel f.type ((cs.drop f.offset).take (P.cellsOf f.type)) = some y) →
    (DataW.weightsEach P (fs.map (·.type)) (ds.map (·.1))).all (· ≤ reachBytes) = true →
    (fs = [] → cs.length = off) → (∀ f, fs.getLast? = some f → f.offset + P.cellsOf f.type = cs.length) → ∃ a, K w a (cs.drop off) ∧ ok a

section
variable {P : Program} {t e : TypeId} {α β : Type} {d : Kd α}
def rInt (k : IntKind) (ht : P.underlying t = some (.int k)) (hc : P.cellsOf t = 1) : RV P t Int (Kd.int k) where
  ok := okI k
  sz := hc
  opens := fun h _ => by obtain ⟨n, h1, _, h3⟩ := DataW.trod_int ht h; exact ⟨n, h1, h3⟩
theorem RV.list_of_lt {n : Nat} {p : Nat → α → Prop} (h : ∀ i, i < n → ∃ x, p i x) : ∃ l : List α, l.length = n ∧ ∀ i x, l[i]? = some x → p i x := by
  rcases Nat.eq_zero_or_pos n with rfl | hn
  · exact ⟨[], rfl, fun i x hx => by simp at hx⟩
  · haveI : Inhabited α := ⟨Classical.choose (h 0 hn)⟩
    obtain ⟨f, hf⟩ := Go.Deep.choose_lt h
    refine ⟨(List.range n).map f, by simp, fun i x hx => ?_⟩
    have hi : i < n := by have := (List.getElem?_eq_some_iff.1 hx).1; simpa using this
    have e : ((List.range n).map f)[i]? = some (f i) := by simp [hi]
    rw [e] at hx
    cases hx
    exact hf i hi
theorem add_add_ (a : Addr) (p q : Nat) : (a.add p).add q = a.add (p + q) := by
  unfold Addr.add
  by_cases hp : p = 0
  · subst hp; simp
  · by_cases hq : q = 0
    · subst hq; simp [hp]
    · have : p + q ≠ 0 := by omega
      simp [hp, hq, this, Nat.add_assoc]
theorem weights_elem {H : Type} {P : Program} {e : TypeId} {l : List (DataW H)} {B : Nat} (h : (DataW.weightsAll P e l).all (· ≤ B) = true) {x : DataW H} (hx : x ∈ l) : (x.weights P e).all (· ≤ B) = true := by
  induction l with
  | nil => simp at hx
  | cons y l ih =>
    rw [DataW.weightsAll, List.all_append, Bool.and_eq_true] at h
    rcases List.mem_cons.1 hx with rfl | hx
    · exact h.1
    · exact ih h.2 hx
def rSlice {B : Nat} (ht : P.underlying t = some (.slice e)) (hc : P.cellsOf t = 1) (hB : P.bytesOf e = B) (hp : 0 < d.sz) (hB1 : 1 ≤ B) (V : RV P e α d) : RV P t (List α) (Kd.slice e d) where
  ok := okL B V.ok
  sz := hc
  opens := fun {H enc w base spare held fuel cs x} h hw => by
    rcases Go.Deep.open_slice ht h with ⟨h0, _⟩ | ⟨a, len, cap, m, f, D, Pl, h1, hb, hl, hm, hmm, hx, hcc⟩
    · exact ⟨[], ⟨none, 0, h0, Nat.le_refl _, ⟨rfl, by simp, fun h => absurd h (by simp)⟩⟩, by simp [okL]⟩
    · have hlm : len ≤ m := by rw [hmm]; split <;> omega
      have hw' := hw
      rw [hx] at hw'
      simp only [DataW.weights, ht, List.all_cons, List.length_map, List.length_range, Bool.and_eq_true, List.all_append] at hw'
      obtain ⟨w1, w2, _⟩ := hw'
      have w1' : (len + (m - len)) * B ≤ 140737488351232 := by rw [← hB]; exact of_decide_eq_true w1
      have one : ∀ i, i < len → ∃ x, ∃ cs', cs'.length = d.sz ∧ (∀ j u, cs'[j]? = some u → w.cell? (a.add (i * d.sz + j)) = some u) ∧ d.K w x cs' ∧ V.ok x := by
        intro i hi
        obtain ⟨cs', k1, k2⟩ := hcc i (by omega)
        obtain ⟨_, hlen, hcell⟩ := World.cells?_some k1
        have hwi := weights_elem w2 (List.mem_map.2 ⟨i, List.mem_range.2 hi, rfl⟩)
        obtain ⟨y, hy, hok⟩ := V.opens k2 hwi
        rw [V.sz] at hlen hcell
        refine ⟨y, cs', hlen, fun j u hj => ?_, hy, hok⟩
        have hj' : j < d.sz := by have := (List.getElem?_eq_some_iff.1 hj).1; omega
        have := hcell j hj'
        rw [add_add_, hj] at this
        exact this
      obtain ⟨l, hl', hall⟩ := RV.list_of_lt one
      have hlb : len ≤ 9223372036854775807 := by
        have : len * 1 ≤ (len + (m - len)) * B := Nat.mul_le_mul (by omega) hB1
        omega
      refine ⟨l, ⟨some a, cap, by rw [h1, hl'], by omega, ⟨rfl, by omega, fun _ => ⟨a, rfl, fun j p hj => ?_⟩⟩⟩, ?_, ?_⟩
      · obtain ⟨cs', q1, q2, q3, _⟩ := hall j p hj
        exact ⟨cs', q1, q3, q2⟩
      · rw [hl']
        exact Nat.le_trans (Nat.mul_le_mul_right _ (by omega)) w1'
      · intro x hx
        obtain ⟨i, hi⟩ := List.getElem?_of_mem hx
        obtain ⟨_, _, _, _, q⟩ := hall i x hi
        exact q
def fNil (off : Nat) : RF P [] off Unit where
  K := fun _ _ cs => cs = []
  ok := fun _ => True
  opens := fun _ _ _ _ h0 _ => ⟨(), by have := h0 rfl; simp [← this], trivial⟩
def fCons (f : Field) {fs : List Field} {off n : Nat} (ho : f.offset = off) (hn : P.cellsOf f.type = n) {d : Kd α} (V : RV P f.type α d) (F : RF P fs (off + n) β) : RF P (f :: fs) off (α × β) where
  K := fun w x cs => ∃ c c', cs = c ++ c' ∧ d.K w x.1 c ∧ F.K w x.2 c'
  ok := fun x => V.ok x.1 ∧ F.ok x.2
  opens := fun {H enc w base spare held fuel cs ds} hoff hle hy hw h0 hlast => by
    obtain ⟨y, hy1, hy0⟩ := hy 0 f rfl
    obtain ⟨ds, rfl⟩ : ∃ l, ds = y :: l := by
      cases ds with
      | nil => simp at hy1
      | cons z l => simp at hy1; subst hy1; exact ⟨l, rfl⟩
    rw [List.map_cons, List.map_cons, DataW.weightsEach, List.all_append, Bool.and_eq_true] at hw
    obtain ⟨a, ha, hka⟩ := V.opens hy0 hw.1
    have hl0 := hle f (by simp)
    rw [ho, hn] at hl0
    obtain ⟨b, hb, hkb⟩ := F.opens (cs := cs) (ds := ds) hl0 (fun g hg => hle g (by simp [hg])) (fun i g hg => hy (i + 1) g hg) hw.2 (fun h => by subst h; have := hlast f (by simp); rw [ho, hn] at this; exact this.symm)
      (fun g hg => hlast g (by cases fs with | nil => simp at hg | cons z zs => rw [List.getLast?_cons_cons]; exact hg))
    refine ⟨(a, b), ⟨(cs.drop off).take n, cs.drop (off + n), ?_, ?_, hb⟩, hka, hkb⟩
    · rw [← List.drop_drop, List.take_append_drop]
    · rw [ho, hn] at ha; exact ha
/-- the struct's cells end with its last field's -/
def fitsB (P : Program) (t : TypeId) (fs : List Field) : Bool := fs.all (fun f => decide (f.offset + P.cellsOf f.type ≤ P.cellsOf t)) && (match fs.getLast? with | some f => f.offset + P.cellsOf f.type == P.cellsOf t | none => P.cellsOf t == 0)
def rStruct {fs : Array Field} (ht : P.underlying t = some (.struct fs)) (hf : fitsB P t fs.toList = true) {d : Kd β} (hc : P.cellsOf t = d.sz) (F : RF P fs.toList 0 α) (f : α → β) (hK : ∀ w x cs, F.K w x cs → d.K w (f x) cs) (ok : β → Prop) (hok : ∀ x, F.ok x → ok (f x)) : RV P t β d where
  ok := ok
  sz := hc
  opens := fun {H enc w base spare held fuel cs x} h hw => by
    obtain ⟨xs, n, _, rfl, hl, hxl, hx⟩ := DataW.trod_struct ht h
    unfold fitsB at hf
    rw [Bool.and_eq_true] at hf
    obtain ⟨f1, f2⟩ := hf
    simp only [DataW.weights, ht] at hw
    obtain ⟨a, ha, hka⟩ := F.opens (enc := enc) (w := w) (base := base) (spare := spare) (held := held) (fuel := n) (cs := cs) (ds := xs) (Nat.zero_le _)
      (fun f hf => by rw [hl]; exact of_decide_eq_true (List.all_eq_true.1 f1 f hf))
      (fun i f hi => by
        have hi' : fs[i]? = some f := by rw [← Array.getElem?_toList]; exact hi
        have hlt : i < fs.size := by
          have := (List.getElem?_eq_some_iff.1 hi).1
          simpa using this
        have z := hx i f hi'
        rw [z]
        exact ⟨_, List.getElem?_eq_getElem (by omega), List.getElem?_eq_getElem (by omega)⟩)
      hw
      (fun h0 => by rw [h0] at f2; simp at f2; rw [hl]; exact f2)
      (fun f hf => by rw [hf] at f2; simp at f2; rw [hl]; exact f2)
    exact ⟨f a, hK _ _ _ (by simpa using ha), hok a hka⟩
end
end Go.Proofs.Ytjmpojfpbhihpaa

end
section
namespace Go.Proofs.Ytjmpojfpbhihpaa.P
open Go.Proofs.YtjmpojfpbhihpaaW.PrintWords Go.Proofs.YtjmpojfpbhihpaaW.PrintLast Go.Proofs.YtjmpojfpbhihpaaW.PrintMore
set_option linter.unusedVariables false
def r3 : RV Try.prog 3 Int (Kd.int .i64) := rInt .i64 Try.underlying3 (by kernel_rfl)
def r23 : RV Try.prog 23 Int (Kd.int .u32) := rInt .u32 Try.underlying23 (by kernel_rfl)
def ok25 (x : S25) : Prop := (okI .u32) x.f0 ∧ (okI .i64) x.f1
def r25 : RV Try.prog 25 S25 k25 := rStruct Try.underlying25 (by kernel_rfl) (by kernel_rfl) (fCons (n := 1) _ rfl (by kernel_rfl) r23 (fCons (n := 1) _ rfl (by kernel_rfl) r3 (fNil _))) (fun x => ⟨x.1, x.2.1⟩) (by rintro w x cs ⟨c0, _, rfl, h0, c1, _, rfl, h1, rfl⟩; exact ⟨c0, _, rfl, h0, (by rw [List.append_nil]; exact h1)⟩) ok25 (fun x h => ⟨h.1, h.2.1⟩)
def r37 : RV Try.prog 37 (List (S25)) (Kd.slice 25 k25) := rSlice (B := 16) Try.underlying37 (by kernel_rfl) (by kernel_rfl) (by decide) (by decide) r25
def r38 : RV Try.prog 38 (List (Int)) (Kd.slice 3 (Kd.int .i64)) := rSlice (B := 8) Try.underlying38 (by kernel_rfl) (by kernel_rfl) (by decide) (by decide) r3
def ok102 (x : S102) : Prop := (okI .i64) x.f0 ∧ (okI .i64) x.f1
def r102 : RV Try.prog 102 S102 k102 := rStruct Try.underlying102 (by kernel_rfl) (by kernel_rfl) (fCons (n := 1) _ rfl (by kernel_rfl) r3 (fCons (n := 1) _ rfl (by kernel_rfl) r3 (fNil _))) (fun x => ⟨x.1, x.2.1⟩) (by rintro w x cs ⟨c0, _, rfl, h0, c1, _, rfl, h1, rfl⟩; exact ⟨c0, _, rfl, h0, (by rw [List.append_nil]; exact h1)⟩) ok102 (fun x h => ⟨h.1, h.2.1⟩)
def r39 : RV Try.prog 39 (List (S102)) (Kd.slice 102 k102) := rSlice (B := 16) Try.underlying39 (by kernel_rfl) (by kernel_rfl) (by decide) (by decide) r102
def ok41 (x : S41) : Prop := (okI .i64) x.f0 ∧ (okI .i64) x.f1 ∧ (okI .i64) x.f2 ∧ (okL 8 (okI .i64)) x.f3 ∧ (okL 16 (ok102)) x.f4 ∧ (okI .i64) x.f5 ∧ (okL 8 (okI .i64)) x.f6
def r41 : RV Try.prog 41 S41 k41 := rStruct Try.underlying41 (by kernel_rfl) (by kernel_rfl) (fCons (n := 1) _ rfl (by kernel_rfl) r3 (fCons (n := 1) _ rfl (by kernel_rfl) r3 (fCons (n := 1) _ rfl (by kernel_rfl) r3 (fCons (n := 1) _ rfl (by kernel_rfl) r38 (fCons (n := 1) _ rfl (by kernel_rfl) r39 (fCons (n := 1) _ rfl (by kernel_rfl) r3 (fCons (n := 1) _ rfl (by kernel_rfl) r38 (fNil _)))))))) (fun x => ⟨x.1, x.2.1, x.2.2.1, x.2.2.2.1, x.2.2.2.2.1, x.2.2.2.2.2.1, x.2.2.2.2.2.2.1⟩) (by rintro w x cs ⟨c0, _, rfl, h0, c1, _, rfl, h1, c2, _, rfl, h2, c3, _, rfl, h3, c4, _, rfl, h4, c5, _, rfl, h5, c6, _, rfl, h6, rfl⟩; exact ⟨c0, _, rfl, h0, ⟨c1, _, rfl, h1, ⟨c2, _, rfl, h2, ⟨c3, _, rfl, h3, ⟨c4, _, rfl, h4, ⟨c5, _, rfl, h5, (by rw [List.append_nil]; exact h6)⟩⟩⟩⟩⟩⟩) ok41 (fun x h => ⟨h.1, h.2.1, h.2.2.1, h.2.2.2.1, h.2.2.2.2.1, h.2.2.2.2.2.1, h.2.2.2.2.2.2.1⟩)
def ok43 (x : S43) : Prop := (okL 16 (ok25)) x.f0 ∧ (okL 16 (ok25)) x.f1 ∧ (ok41) x.f2
def r43 : RV Try.prog 43 S43 k43 := rStruct Try.underlying43 (by kernel_rfl) (by kernel_rfl) (fCons (n := 1) _ rfl (by kernel_rfl) r37 (fCons (n := 1) _ rfl (by kernel_rfl) r37 (fCons (n := 7) _ rfl (by kernel_rfl) r41 (fNil _)))) (fun x => ⟨x.1, x.2.1, x.2.2.1⟩) (by rintro w x cs ⟨c0, _, rfl, h0, c1, _, rfl, h1, c2, _, rfl, h2, rfl⟩; exact ⟨c0, _, rfl, h0, ⟨c1, _, rfl, h1, (by rw [List.append_nil]; exact h2)⟩⟩) ok43 (fun x h => ⟨h.1, h.2.1, h.2.2.1⟩)
end Go.Proofs.Ytjmpojfpbhihpaa.P

end
section
namespace Go.Proofs.Ytjmpojfpbhihpaa.Pure
open Go.RowKit Go.Proofs.Ytjmpojfpbhihpaa.P Go.Proofs.YtjmpojfpbhihpaaW.PrintWords Go.Proofs.YtjmpojfpbhihpaaW.PrintLast Go.Proofs.YtjmpojfpbhihpaaW.PrintMore
set_option linter.unusedVariables false

theorem WireCuts (x0 : S43) (x1 : Int) (x2 : Int) (ok_0 : (ok43) x0) (ok_1 : (okI .i64) x1) (ok_2 : (okI .u8) x2) : ∃ k, Go.Proofs.Ytjmpojfpbhihpaa.P.whirligiglaw10_WireCuts.f k x0.f0 x0.f1 x0.f2.f0 x0.f2.f1 x0.f2.f2 x0.f2.f3 x0.f2.f4 x0.f2.f5 x0.f2.f6 x1 x2 = some true := by
  have h : whirligiglaw10_WireCuts.f 0 x0.f0 x0.f1 x0.f2.f0 x0.f2.f1 x0.f2.f2 x0.f2.f3 x0.f2.f4 x0.f2.f5 x0.f2.f6 x1 x2 = some true := by
    unfold whirligiglaw10_WireCuts.f
    refine if_pos ?_
    simp only [Bool.and_eq_true, List.all_eq_true, decide_eq_true_eq]
    have h1 := okI_i64 ok_1
    have h2 := okI_u8 ok_2
    exact ⟨fun x hx => okI_u32 (ok_0.1.2 x hx).1, fun x hx => okI_u32 (ok_0.2.1.2 x hx).1, by omega, by omega⟩
  exact ⟨0, h⟩
end Go.Proofs.Ytjmpojfpbhihpaa.Pure

end
