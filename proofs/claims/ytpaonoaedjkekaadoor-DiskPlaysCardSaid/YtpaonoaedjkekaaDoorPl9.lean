/- room, kept, moment, answered. What a crash leaves, on both disks, whatever is asked. -/
import Derived.Test.YtpaonoaedjkekaaDoorPl4
import Derived.Test.YtpaonoaedjkekaaDoorPDx5
import Derived.Test.YtpaonoaedjkekaaDoorPl8
namespace Go.Proofs.YtpaonoaedjkekaaDoor.Dk
open Go Go.RowKit Go.Proofs.YtpaonoaedjkekaaDoor.PD Go.Proofs.YtpaonoaedjkekaaDoorW.PrintWords Go.Proofs.YtpaonoaedjkekaaDoorW.PrintLast Go.Proofs.YtpaonoaedjkekaaDoorW.PrintMore
set_option linter.unusedVariables false
set_option linter.unusedSimpArgs false
set_option maxHeartbeats 4000000
set_option maxRecDepth 100000
/-- What stands behind bytes with room. -/
def tailL (n : Nat) : List Int := (List.range n).map fun i => ((((i * 7 + 1) % 256 : Nat)) : Int)
theorem tailL_succ (n : Nat) : tailL (n + 1) = tailL n ++ [(((n * 7 + 1) % 256 : Nat) : Int)] := by simp [tailL, List.range_succ]
theorem tailL_len (n : Nat) : (tailL n).length = n := by simp [tailL]
theorem tail_num (i : Nat) (h : i < 64) : (wrap64 ((wrap64 ((i : Int) * 7)) + 1)) % 256 = (((i * 7 + 1) % 256 : Nat) : Int) ∧ wrap64 ((i : Int) + 1) = ((i + 1 : Nat) : Int) := by
  have : ∀ i : Fin 64, (wrap64 ((wrap64 ((i.val : Int) * 7)) + 1)) % 256 = (((i.val * 7 + 1) % 256 : Nat) : Int) ∧ wrap64 ((i.val : Int) + 1) = ((i.val + 1 : Nat) : Int) := by decide +kernel
  exact this ⟨i, h⟩
theorem room_l0 (xs : List Int) (hx : xs.length + 64 < 140737488355328) : ∀ (k i : Nat), i + k = 64 → larderlaw06_room.l0 (k + 1) (xs ++ tailL i) (i : Int) = some (xs ++ tailL 64)
  | 0, i, h => by
    unfold larderlaw06_room.l0
    rw [if_neg (by omega), show i = 64 from by omega]
  | k + 1, i, h => by
    unfold larderlaw06_room.l0
    obtain ⟨e1, e2⟩ := tail_num i (by omega)
    rw [if_pos (by omega), if_pos (by rw [List.length_append, tailL_len]; omega), e1, e2, List.append_assoc, ← tailL_succ]
    exact room_l0 xs hx k (i + 1) (by omega)
theorem room_ok (xs : List Int) (hx : xs.length + 64 < 140737488355328) : larderlaw06_room.f 65 xs = some (xs ++ tailL 64) := by
  unfold larderlaw06_room.f
  rw [if_pos (by simp; omega), List.nil_append]
  have := room_l0 xs hx 64 0 rfl
  rwa [show tailL 0 = [] from rfl, List.append_nil] at this
theorem kept_l0 (xs : List Int) (hx : xs.length + 64 < 140737488355328) : ∀ (k i : Nat), i + k = 64 → larderlaw06_kept.l0 (k + 1) (xs ++ tailL 64) xs (i : Int) = some true
  | 0, i, h => by
    unfold larderlaw06_kept.l0
    rw [if_neg (by omega)]
  | k + 1, i, h => by
    unfold larderlaw06_kept.l0
    obtain ⟨e1, e2⟩ := tail_num i (by omega)
    have e3 : wrap64 ((xs.length : Int) + (i : Int)) = ((xs.length + i : Nat) : Int) := by unfold wrap64; omega
    have hl : (xs ++ tailL 64).length = xs.length + 64 := by rw [List.length_append, tailL_len]
    have e4 : rd (xs ++ tailL 64) ((xs.length + i : Nat) : Int) = (((i * 7 + 1) % 256 : Nat) : Int) := by
      unfold rd
      rw [Int.toNat_natCast, List.getD_eq_getElem?_getD, List.getElem?_append_right (by omega), Nat.add_sub_cancel_left]
      unfold tailL
      rw [List.getElem?_map, List.getElem?_range (by omega)]
      rfl
    rw [if_pos (by omega), e3, if_pos (by omega), if_pos (by rw [hl]; omega), e4, e1, if_pos rfl, e2]
    exact kept_l0 xs hx k (i + 1) (by omega)
theorem kept_j0 (k : Nat) (x0 x1 : List Int) : larderlaw06_kept.j0 (k + 1) x0 x1 (!true) = larderlaw06_kept.l0 k x0 x1 0 := by
  unfold larderlaw06_kept.j0
  rfl
theorem kept_end (K : Nat) (x0 x1 : List Int) (h : larderlaw06_kept.l0 K x0 x1 0 = some true) : ((some true : Option Bool).bind fun t => larderlaw06_kept.j0 (K + 1) x0 x1 (!t)) = some true := by
  rw [Option.bind_some, kept_j0]
  exact h
theorem kept_ok (xs : List Int) (hx : xs.length + 64 < 140737488355328) : ∃ k, larderlaw06_kept.f k (xs ++ tailL 64) xs = some true := by
  refine ⟨xs.length + 66, ?_⟩
  unfold larderlaw06_kept.f
  have hl : (xs ++ tailL 64).length = xs.length + 64 := by rw [List.length_append, tailL_len]
  have e3 : wrap64 ((xs.length : Int) + 64) = ((xs.length + 64 : Nat) : Int) := by unfold wrap64; omega
  rw [hl, e3, if_pos rfl, if_pos (by omega), if_pos (by omega), Int.toNat_natCast, List.take_left' rfl]
  have hb : ∀ d, larderlaw06_bytes.f (xs.length + 1 + d) xs xs = some true := fun d => by
    induction d with
    | zero => exact bytes_ok xs (by omega)
    | succ d ih =>
      rw [show xs.length + 1 + (d + 1) = (xs.length + 1 + d) + 1 from by omega]
      exact larderlaw06_bytes.mono xs xs _ _ ih
  have hk : ∀ d, larderlaw06_kept.l0 (65 + d) (xs ++ tailL 64) xs 0 = some true := fun d => by
    induction d with
    | zero =>
      have h0 := kept_l0 xs hx 64 0 rfl
      have e : ((0 : Nat) : Int) = 0 := rfl
      rw [e] at h0
      exact h0
    | succ d ih =>
      rw [show 65 + (d + 1) = (65 + d) + 1 from by omega]
      exact (larderlaw06_kept.mono_l (65 + d)).2 _ _ _ _ ih
  have h1 := hb 65
  have h2 := hk xs.length
  have e66 : xs.length + 66 = xs.length + 1 + 65 := by omega
  have e67 : xs.length + 1 + 65 = (65 + xs.length) + 1 := by omega
  rw [e66, h1, e67]
  exact kept_end _ _ _ h2
theorem room_at (xs : List Int) (hx : xs.length + 64 < 140737488355328) (A : Option Addr) (n c : Nat) (w : World) (hn : xs.length = n) (hC : Kd.C (Kd.int .u8) w A n xs) (hc : n ≤ c) :
    Calls Tryd.prog 32 #[.slice A n c] w fun e w' => ∃ g c', e = .returned (.slice (some ⟨g, 0, none⟩) (n + 64) c') ∧ Mem w' g (xs ++ tailL 64) ∧ w.heap.size ≤ g ∧ n + 64 ≤ c' ∧ Below w.heap.size w w' := by
  subst hn
  refine (larderlaw06_room.calls 65 A c xs _ w hC hc (room_ok xs hx)).mono ?_
  rintro e w' ⟨v, rfl, hr, hb⟩
  have hl : (xs ++ tailL 64).length = xs.length + 64 := by rw [List.length_append, tailL_len]
  obtain ⟨g, c', ev, hm, hB, _, hle⟩ := Mem.of_R hr (by omega)
  rw [hl] at ev hle
  exact ⟨g, c', by rw [ev], hm, hB, hle, hb⟩
theorem kept_at (xs : List Int) (hx : xs.length + 64 < 140737488355328) (A0 A1 : Option Addr) (n c0 c1 : Nat) (w : World) (hn : xs.length = n) (hr0 : Kd.C (Kd.int .u8) w A0 (n + 64) (xs ++ tailL 64)) (hc0 : n + 64 ≤ c0) (hr1 : Kd.C (Kd.int .u8) w A1 n xs) (hc1 : n ≤ c1) :
    Calls Tryd.prog 34 #[.slice A0 (n + 64) c0, .slice A1 n c1] w fun e w' => e = .returned (.bool true) ∧ Drawn0 w w' := by
  subst hn
  have hl : (xs ++ tailL 64).length = xs.length + 64 := by rw [List.length_append, tailL_len]
  obtain ⟨k, hk⟩ := kept_ok xs hx
  have := larderlaw06_kept.calls k A0 c0 (xs ++ tailL 64) A1 c1 xs true w (by rw [hl]; exact hr0) (by rw [hl]; exact hc0) hr1 hc1 hk
  rwa [hl] at this
/-- The moment that an op of the law means. -/
def momentN (N : Int) (ex : Bool) (n : Nat) : Int := if ex = true then N else if N < 0 then (n : Int) - (-(N + 1)) % ((n : Int) + 1) else (n : Int) - N % ((n : Int) + 1)
theorem moment_ok (a0 N a2 a6 a7 : Int) (l3 l5 : List Int) (ex : Bool) (n : Nat) (hn : n ≤ 65536) (hN : -9223372036854775808 ≤ N ∧ N ≤ 9223372036854775807) : larderlaw06_moment.f a0 N a2 l3 ex l5 a6 a7 (n : Int) = some (momentN N ex n) := by
  unfold larderlaw06_moment.f momentN
  have e1 : wrap64 ((n : Int) + 1) = (n : Int) + 1 := by unfold wrap64; omega
  split
  · rfl
  · split
    · rename_i h0
      have e2 : wrap64 (-(wrap64 (N + 1))) = -(N + 1) := by
        have e3 : wrap64 (N + 1) = N + 1 := by unfold wrap64; omega
        rw [e3]; unfold wrap64; omega
      have h1 : 0 ≤ (-(N + 1)) % ((n : Int) + 1) := Int.emod_nonneg _ (by omega)
      have h2 : (-(N + 1)) % ((n : Int) + 1) < (n : Int) + 1 := Int.emod_lt_of_pos _ (by omega)
      rw [e1, if_neg (by omega), e2, Int.tmod_eq_emod_of_nonneg (by omega)]
      congr 1
      generalize (-(N + 1)) % ((n : Int) + 1) = z at *
      unfold wrap64; omega
    · have h1 : 0 ≤ N % ((n : Int) + 1) := Int.emod_nonneg _ (by omega)
      have h2 : N % ((n : Int) + 1) < (n : Int) + 1 := Int.emod_lt_of_pos _ (by omega)
      rw [e1, if_neg (by omega), Int.tmod_eq_emod_of_nonneg (by omega)]
      congr 1
      generalize N % ((n : Int) + 1) = z at *
      unfold wrap64; omega
end Go.Proofs.YtpaonoaedjkekaaDoor.Dk
namespace Go.Proofs.YtpaonoaedjkekaaDoor.Dk
open Go Go.RowKit Go.Proofs.YtpaonoaedjkekaaDoor.PD Go.Proofs.YtpaonoaedjkekaaDoorW.PrintWords Go.Proofs.YtpaonoaedjkekaaDoorW.PrintLast Go.Proofs.YtpaonoaedjkekaaDoorW.PrintMore
set_option linter.unusedVariables false
set_option linter.unusedSimpArgs false
set_option maxHeartbeats 4000000
set_option maxRecDepth 100000
def BadAt (n : Nat) (M y : Int) : Prop := M < 0 ∨ (n : Int) < M ∨ y < 0 ∨ 128 < y
instance (n : Nat) (M y : Int) : Decidable (BadAt n M y) := by unfold BadAt; infer_instance
def atCode (n : Nat) (M y : Int) : Int := if BadAt n M y then 2 else 0
def atOut (fs : List Int) (ops : List (Int × List Int)) (M : Int) (keep : List Int) (torn y : Int) : List Int := if BadAt ops.length M y then [] else atL fs ops M.toNat keep torn y.toNat
theorem atL_len {m : Nat} {fs : List Int} {ops : List (Int × List Int)} (hf : fs.length = m) (hO : Oks m ops) (n : Nat) (hn : n ≤ ops.length) (keep : List Int) (torn : Int) (y : Nat) (hy : y ≤ 128) : (atL fs ops n keep torn y).length = m :=
  crashL_len hy _ _ _ (behindL_len _ _ hf (hO.take _)) (loose_mem hO hn (Nat.le_refl _))
theorem at_any {h : Hd} {B : Nat} {fs ss : List Int} {A : Option Addr} {c : Nat} {ops : List (Int × List Int)} {W : World} (k : DkAt h B fs ss (.slice A ops.length c) ops W) (hF : Fl W) (hO : Oks h.n ops) (h0 : 0 < W.heap.size) (M torn y : Int)
    (Ak : Option Addr) (mk ck : Nat) (keep : List Int) (hC : Kd.C (Kd.int .i64) W Ak mk keep) (L : Nat) (hL : (atOut fs ops M keep torn y).length = L) :
    Calls Tryd.prog 15 #[ptr h.D, .int .i64 M, .agg #[.slice Ak mk ck, .int .i64 torn, .int .i64 y]] W fun e w' => ∃ Ax cx, e = .returned (.tuple #[.slice Ax L cx, .int .i64 (atCode ops.length M y)]) ∧ Kd.C (Kd.int .u8) w' Ax L (atOut fs ops M keep torn y) ∧ L ≤ cx ∧ Below W.heap.size W w' := by
  subst hL
  by_cases hb : BadAt ops.length M y
  · have e1 : atOut fs ops M keep torn y = [] := if_pos hb
    have e2 : atCode ops.length M y = 2 := if_pos hb
    rw [e1, e2]
    refine (at_arg k M torn y Ak mk ck hb).mono ?_
    rintro _ w' ⟨rfl, hB⟩
    exact ⟨none, 0, rfl, Kd.C_nil _ _, Nat.le_refl _, hB⟩
  · have e1 : atOut fs ops M keep torn y = atL fs ops M.toNat keep torn y.toNat := if_neg hb
    have e2 : atCode ops.length M y = 0 := if_neg hb
    rw [e1, e2]
    unfold BadAt at hb
    obtain ⟨n, rfl⟩ : ∃ n : Nat, M = (n : Int) := ⟨M.toNat, by omega⟩
    obtain ⟨z, rfl⟩ : ∃ z : Nat, y = (z : Int) := ⟨y.toNat, by omega⟩
    rw [Int.toNat_natCast, Int.toNat_natCast]
    have hl := atL_len k.lf hO n (by omega) keep torn z (by omega)
    refine (at_at k hF hO h0 n (by omega) Ak mk ck keep torn z (by omega) hC).mono ?_
    rintro _ w' ⟨g, cg, rfl, hm, _, hcg, hB⟩
    rw [hl]
    exact ⟨_, cg, rfl, hm.allN hl (by have := k.big; omega), hcg, hB⟩
theorem rat_any {r : Rd} {B : Nat} {ok : Nat → Prop} {fs : List Int} {A : Option Addr} {c : Nat} {ops : List (Int × List Int)} {W : World} (k : RfAt r B ok fs (.slice A ops.length c) ops W) (hO : Oks r.n ops) (M torn y : Int)
    (Ak : Option Addr) (mk ck : Nat) (keep : List Int) (hC : Kd.C (Kd.int .i64) W Ak mk keep) (L : Nat) (hL : (atOut fs ops M keep torn y).length = L) :
    Calls Tryd.prog 53 #[ptr r.D, .int .i64 M, .agg #[.slice Ak mk ck, .int .i64 torn, .int .i64 y]] W fun e w' => ∃ Ax cx, e = .returned (.tuple #[.slice Ax L cx, .int .i64 (atCode ops.length M y)]) ∧ Kd.C (Kd.int .u8) w' Ax L (atOut fs ops M keep torn y) ∧ L ≤ cx ∧ Below W.heap.size W w' := by
  subst hL
  by_cases hb : BadAt ops.length M y
  · have e1 : atOut fs ops M keep torn y = [] := if_pos hb
    have e2 : atCode ops.length M y = 2 := if_pos hb
    rw [e1, e2]
    refine (rat_arg k M torn y Ak mk ck hb).mono ?_
    rintro _ w' ⟨rfl, hB⟩
    exact ⟨none, 0, rfl, Kd.C_nil _ _, Nat.le_refl _, hB⟩
  · have e1 : atOut fs ops M keep torn y = atL fs ops M.toNat keep torn y.toNat := if_neg hb
    have e2 : atCode ops.length M y = 0 := if_neg hb
    rw [e1, e2]
    unfold BadAt at hb
    obtain ⟨n, rfl⟩ : ∃ n : Nat, M = (n : Int) := ⟨M.toNat, by omega⟩
    obtain ⟨z, rfl⟩ : ∃ z : Nat, y = (z : Int) := ⟨y.toNat, by omega⟩
    rw [Int.toNat_natCast, Int.toNat_natCast]
    have hl := atL_len k.lf hO n (by omega) keep torn z (by omega)
    refine (rat_at k hO n (by omega) Ak mk ck keep torn z (by omega) hC).mono ?_
    rintro _ w' ⟨g, cg, rfl, hm, _, hcg, hB⟩
    rw [hl]
    exact ⟨_, cg, rfl, hm.allN hl (by have := k.big; omega), hcg, hB⟩
theorem atOut_len {m : Nat} {fs : List Int} {ops : List (Int × List Int)} (hf : fs.length = m) (hO : Oks m ops) (M : Int) (keep : List Int) (torn y : Int) : (atOut fs ops M keep torn y).length ≤ m := by
  unfold atOut
  split
  · exact Nat.zero_le _
  · rename_i h
    unfold BadAt at h
    rw [atL_len hf hO _ (by omega) keep torn _ (by omega)]
    exact Nat.le_refl _
theorem atOut_full {m : Nat} {fs : List Int} {ops : List (Int × List Int)} (hf : fs.length = m) (hO : Oks m ops) (M : Int) (keep : List Int) (torn y : Int) (hc : atCode ops.length M y = 0) : (atOut fs ops M keep torn y).length = m := by
  have h : ¬ BadAt ops.length M y := fun h => by unfold atCode at hc; rw [if_pos h] at hc; cases hc
  unfold atOut
  rw [if_neg h]
  unfold BadAt at h
  exact atL_len hf hO _ (by omega) keep torn _ (by omega)
/-- The moment that an op means, asked. -/
theorem moment_at (kind N fill torn y : Int) (Ab Ak : Option Addr) (m cb mk ck : Nat) (ex : Bool) (bs keep : List Int) (n : Nat) (hn : n ≤ 65536) (hN : -9223372036854775808 ≤ N ∧ N ≤ 9223372036854775807) (W : World)
    (hCb : Kd.C (Kd.int .u8) W Ab m bs) (hmb : m ≤ cb) (hCk : Kd.C (Kd.int .i64) W Ak mk keep) (hmk : mk ≤ ck) :
    Calls Tryd.prog 52 #[.agg (opV kind N fill torn y Ab Ak m cb mk ck ex).toArray, .int .i64 (n : Int)] W fun e w' => e = .returned (.int .i64 (momentN N ex n)) ∧ Below W.heap.size W w' := by
  obtain rfl := Kd.C_len hCb
  obtain rfl := Kd.C_len hCk
  exact larderlaw06_moment.calls kind N fill Ab cb bs ex Ak ck keep torn y (n : Int) _ W hCb hmb hCk hmk (moment_ok kind N fill torn y bs keep ex n hn hN)
end Go.Proofs.YtpaonoaedjkekaaDoor.Dk
