/- What the document writes of a reply: the same bytes. CodecReplies: the answers are the same; the law's function, walked. A reply, and bytes, that come in as arguments, read. -/
import Derived.Test.YtafmoglaockepaaRe7
import Derived.Test.YtafmoglaockepaaPGx8
import Derived.Test.YtafmoglaockepaaPGx9
import Derived.Test.YtafmoglaockepaaPGx10
import Derived.Test.YtafmoglaockepaaPGx13
import Derived.Test.YtafmoglaockepaaPGx14
import Derived.Deep.RegionHeld3
import Derived.Deep.RegionLaw
import Derived.Test.YtafmoglaockepaaBulk
import Derived.Deep.Slices
import Derived.Deep.Strs
import Derived.ChangeSame
import Derived.OpenShut
import Derived.Lib.SmallJoins
namespace Go.Proofs.Ytafmoglaockepaa.Cd
open Go Go.RowKit Go.Proofs.Ytafmoglaockepaa.Num Go.Proofs.Ytafmoglaockepaa.PG Go.Proofs.YtafmoglaockepaaW.PrintWords Go.Proofs.YtafmoglaockepaaW.PrintLast Go.Proofs.YtafmoglaockepaaW.PrintMore
set_option linter.unusedVariables false
theorem w64n {k : Nat} (h : k < 9223372036854775807) : wrap64 ((k : Int) + 1) = ((k + 1 : Nat) : Int) := by unfold wrap64; omega
theorem count_ok (k : Nat) (hk : 10 < k) (l : List Int) (n : Nat) (hn : n < 140737488355328) (hl : l.length + 10 < 140737488355328) : larderref09_count.f k l (n : Int) = some (l ++ encU n) := by
  unfold larderref09_count.f encU
  rw [show IntKind.u64.wrap (n : Int) = (n : Int) by rw [IntKind.wrap_u64]; omega, refPutUint_ok k hk l n (by omega) hl, Option.bind_some]
theorem within_ok (l : List Int) (m : Nat) : larderref09_within.f l (m : Int) = some (putOut m l, putCode m l) := by
  unfold larderref09_within.f putOut putCode
  by_cases h : m < l.length
  · rw [if_pos (by omega), if_pos h, if_pos h]
  · rw [if_neg (by omega), if_neg h, if_neg h]
theorem refPutInt' (k : Nat) (hk : 10 < k) (l : List Int) (a : Int) (h : Int64 a) (hl : l.length + 10 < 140737488355328) : larderref01_PutInt.f k l a = some (l ++ encI a) := refPutInt_ok k hk l a h.1 h.2 hl
theorem bulkL_drop : ∀ (l : List S28) (i : Nat), bulkL (l.drop i) ≤ bulkL l
  | [], i => by simp [bulkL]
  | x :: l, 0 => by simp [bulkL]
  | x :: l, i + 1 => by
    have h1 := bulkL_drop l i
    simp only [bulkL, List.drop_succ_cons, List.map_cons, List.sum_cons] at h1 ⊢
    omega
theorem bulkL_count : ∀ l : List S28, 30 * l.length ≤ bulkL l
  | [] => by simp [bulkL]
  | x :: l => by
    have := bulkL_count l
    simp only [bulkL, List.map_cons, List.sum_cons, List.length_cons] at this ⊢
    omega
theorem bulkL_cons (x : S28) (l : List S28) : bulkL (x :: l) = 30 + x.f0.size + bulkL l := by simp [bulkL]
theorem encLs_cons (x : S28) (l : List S28) : encLs (x :: l) = encL x ++ encLs l := by simp [encLs]
theorem drop_at {α : Type} {l : List α} {i : Nat} {x : α} (h : l[i]? = some x) : l.drop i = x :: l.drop (i + 1) := by
  obtain ⟨hd, rfl⟩ := List.getElem?_eq_some_iff.1 h
  exact List.drop_eq_getElem_cons hd
theorem levels_l0 (l : List S28) (hlo : LevOk l) (hll : l.length < 9223372036854775807) : ∀ (d i : Nat) (x0 : List Int), i + d = l.length → x0.length + bulkL (l.drop i) + 100 < 140737488355328 → larderref09_levels.l0 (d + 12) x0 l (i : Int) = some (x0 ++ encLs (l.drop i))
  | 0, i, x0, h, hb => by
    unfold larderref09_levels.l0
    rw [if_neg (by omega), List.drop_of_length_le (by omega)]
    simp [encLs]
  | d + 1, i, x0, h, hb => by
    obtain ⟨x, hx⟩ : ∃ x, l[i]? = some x := ⟨_, List.getElem?_eq_getElem (by omega)⟩
    have hrd : rd_T28 l (i : Int) = x := by unfold rd_T28; rw [Int.toNat_natCast, List.getD_eq_getElem?_getD, hx]; rfl
    have he := drop_at hx
    have hm := hlo x (List.mem_of_getElem? hx)
    have ih := levels_l0 l hlo hll d (i + 1) (x0 ++ encT x.f0 ++ encI x.f1 ++ encI x.f2) (by omega)
    rw [he, bulkL_cons] at hb
    rw [he, encLs_cons]
    have t0 := encT_len x.f0
    have t1 := encI_len x.f1
    have t2 := encI_len x.f2
    rw [show d + 1 + 12 = (d + 12) + 1 from by omega]
    unfold larderref09_levels.l0
    have hl2 := (List.getElem?_eq_some_iff.1 hx).1
    have hi63 : i < 9223372036854775807 := by omega
    rw [if_pos (by omega), if_pos (by omega), hrd, refPutText_ok _ (by omega) _ _ (by omega), Option.bind_some, refPutInt' _ (by omega) _ _ hm.1 (by rw [List.length_append]; omega), Option.bind_some, refPutInt' _ (by omega) _ _ hm.2 (by rw [List.length_append, List.length_append]; omega), Option.bind_some, w64n hi63]
    rw [ih (by simp only [List.length_append]; omega)]
    unfold encL
    simp only [List.append_assoc]
theorem levels_ok (l : List S28) (hlo : LevOk l) (x0 : List Int) (hb : x0.length + bulkL l + 200 < 140737488355328) (k : Nat) (hk : l.length + 12 = k) : larderref09_levels.f k x0 l = some (x0 ++ (encU l.length ++ encLs l)) := by
  subst hk
  have hc := bulkL_count l
  have hu := encU_len l.length
  unfold larderref09_levels.f
  rw [count_ok _ (by omega) _ _ (by omega) (by omega), Option.bind_some]
  have := levels_l0 l hlo (by omega) l.length 0 (x0 ++ encU l.length) (by omega) (by rw [List.drop_zero, List.length_append]; omega)
  rw [List.drop_zero] at this
  have e0 : ((0 : Nat) : Int) = 0 := rfl
  rw [e0] at this
  rw [this, List.append_assoc]
theorem refPutReply_ok (id : ByteArray) (er line now : Int) (l : List S28) (hlo : LevOk l) (h1 : Int64 er) (h2 : Int64 line) (h3 : Int64 now) (hl : id.size + bulkL l + 500 < 140737488355328) :
    larderref09_PutReply.f (l.length + 12) id er line l now = some (putOut 4096 (82 :: encReply id er line l now), putCode 4096 (82 :: encReply id er line l now)) := by
  have t0 := encT_len id
  have t1 := encI_len er
  have t2 := encI_len line
  have t3 := encU_len l.length
  have t4 := encLs_len l
  unfold larderref09_PutReply.f
  rw [refPutText_ok _ (by omega) _ _ (by simp only [List.length_singleton]; omega), Option.bind_some, refPutInt' _ (by omega) _ _ h1 (by simp only [List.length_append, List.length_singleton]; omega), Option.bind_some,
    refPutInt' _ (by omega) _ _ h2 (by simp only [List.length_append, List.length_singleton]; omega), Option.bind_some, levels_ok l hlo _ (by simp only [List.length_append, List.length_singleton]; omega) _ rfl, Option.bind_some,
    refPutInt' _ (by omega) _ _ h3 (by simp only [List.length_append, List.length_singleton]; omega), Option.bind_some]
  have e : [82] ++ encT id ++ encI er ++ encI line ++ (encU l.length ++ encLs l) ++ encI now = 82 :: encReply id er line l now := by
    unfold encReply
    simp only [List.append_assoc, List.cons_append, List.nil_append]
  have hw := within_ok (82 :: encReply id er line l now) 4096
  rw [e, show (4096 : Int) = ((4096 : Nat) : Int) from rfl, hw]
  rfl
end Go.Proofs.Ytafmoglaockepaa.Cd
namespace Go.Proofs.Ytafmoglaockepaa.Cd
open Go Go.RowKit Go.Proofs.Ytafmoglaockepaa.Mine Go.Proofs.Ytafmoglaockepaa.Num Go.Proofs.Ytafmoglaockepaa.PG Go.Proofs.YtafmoglaockepaaW.PrintWords Go.Proofs.YtafmoglaockepaaW.PrintLast Go.Proofs.YtafmoglaockepaaW.PrintMore
set_option linter.unusedVariables false
set_option linter.unusedSimpArgs false
set_option maxHeartbeats 4000000
set_option maxRecDepth 100000
theorem sameLevels_l0 (l : List S28) (hl : l.length ≤ 9223372036854775807) : ∀ d i : Nat, i + d = l.length → larderref09_SameLevels.l0 (d + 1) l l (i : Int) = some true
  | 0, i, h => by
    unfold larderref09_SameLevels.l0
    rw [if_neg (by omega)]
  | d + 1, i, h => by
    unfold larderref09_SameLevels.l0
    rw [if_pos (by omega), if_pos (by omega), if_pos (by omega), w64n (by omega), sameLevels_l0 l hl d (i + 1) (by omega)]
    simp
theorem sameLevels_ok (l : List S28) (hl : l.length ≤ 9223372036854775807) : larderref09_SameLevels.f (l.length + 1) l l = some true := by
  unfold larderref09_SameLevels.f
  rw [if_pos rfl]
  exact sameLevels_l0 l hl l.length 0 (by omega)
theorem sameReply_ok (id : ByteArray) (er line : Int) (l : List S28) (now : Int) (hl : l.length ≤ 9223372036854775807) : larderref09_SameReply.f (l.length + 1) id er line l now id er line l now = some true := by
  unfold larderref09_SameReply.f
  rw [if_pos rfl, if_pos rfl, if_pos rfl, sameLevels_ok l hl, Option.bind_some, if_pos rfl]
  simp
/-- What the law adds up. -/
def sumL (l : List S28) : Nat := (l.map fun x => 3 + x.f0.size).sum
theorem sumL_take : ∀ (l : List S28) (i : Nat), sumL (l.take i) ≤ sumL l
  | [], i => by simp [sumL]
  | x :: l, 0 => by simp [sumL]
  | x :: l, i + 1 => by
    have := sumL_take l i
    simp only [sumL, List.take_succ_cons, List.map_cons, List.sum_cons] at this ⊢
    omega
theorem sumL_count : ∀ l : List S28, 3 * l.length ≤ sumL l
  | [] => by simp [sumL]
  | x :: l => by
    have := sumL_count l
    simp only [sumL, List.map_cons, List.sum_cons, List.length_cons] at this ⊢
    omega
theorem bulkL_sum : ∀ l : List S28, bulkL l ≤ 10 * sumL l
  | [] => by simp [bulkL, sumL]
  | x :: l => by
    have := bulkL_sum l
    simp only [sumL, bulkL, List.map_cons, List.sum_cons] at this ⊢
    omega
theorem replies_walk (id : ByteArray) (er line now : Int) (A : Option Addr) (n c : Nat) (l : List S28) (A2 : Option Addr) (n2 c2 : Nat) (xs : List Int) (W : World)
    (hC : Kd.C k28 W A n l) (hnc : n ≤ c) (hlo : LevOk l) (h1 : Int64 er) (h2 : Int64 line) (h3 : Int64 now) (hsum : id.size + sumL l ≤ 1048576)
    (hC2 : Kd.C (Kd.int .u8) W A2 n2 xs) (hnc2 : n2 ≤ c2) (hby : IsBytes xs) (hn2 : n2 ≤ 1048576) :
    Calls Try.prog 3 #[.agg #[.string id, .int .i64 er, .int .i64 line, .slice A n c, .int .i64 now], .slice A2 n2 c2] W fun e w' => e = .returned (.bool true) ∧ Below W.heap.size W w' := by
  obtain rfl : l.length = n := Kd.C_len hC
  obtain rfl : xs.length = n2 := Kd.C_len hC2
  have HC := Aside0.mk (fun W' (hb : Below W.heap.size W W') => Kd.C_below hC hb)
  have HC2 := Aside0.mk (fun W' (hb : Below W.heap.size W W') => Kd.C_below hC2 hb)
  have HNC := Aside0.mk hnc
  have HNC2 := Aside0.mk hnc2
  have HLO := Aside0.mk hlo
  have H123 := Aside0.mk (And.intro h1 (And.intro h2 h3))
  have HSUM := Aside0.mk hsum
  have HBY := Aside0.mk hby
  have HN2 := Aside0.mk hn2
  have HLL := Aside0.mk (sumL_count l)
  have hb1 : Below W.heap.size W (W.alloc (.cells #[.string id, .int .i64 er, .int .i64 line, .slice A l.length c, .int .i64 now] 25)) := below_alloc (Below.refl _ _) _
  have r1 : Rt 25 W.heap.size [.string id, .int .i64 er, .int .i64 line, .slice A l.length c, .int .i64 now] (W.alloc (.cells #[.string id, .int .i64 er, .int .i64 line, .slice A l.length c, .int .i64 now] 25)) := heap_alloc_new W _
  obtain ⟨bo, hbo⟩ : ∃ bo, W.heap.size = bo := ⟨_, rfl⟩
  have HBO := Aside0.mk hbo
  rw [hbo] at r1 hb1
  have R1 := Aside0.mk r1
  have B1 := Aside0.mk hb1
  clear hC hC2 hnc hnc2 hlo h1 h2 h3 hsum hby hn2 hb1 r1 hbo
  go_enter Try.func3, Try.ntmps3
  go_upto_region 1 with fail
  have hbo := HBO.out
  rw [hbo]
  clear hbo
  generalize W.alloc (.cells #[.string id, .int .i64 er, .int .i64 line, .slice A l.length c, .int .i64 now] 25) = w1 at *
  have c0 := R1.out.cell 0 _ rfl
  go_wp2_with fail
  go_loopw [5, 6, 7] (fun s v p wr => ∃ i : Nat, p = .int .i64 (i : Int) ∧ s = .int .i64 ((id.size + sumL (l.take i) : Nat) : Int) ∧ Aside0 (i ≤ l.length) ∧ Aside0 (k28.R 28 wr (bo + 1) (fun _ => True) v (l.take i)) ∧ Aside0 (Below bo W wr) ∧ Aside0 (Rt 25 bo [.string id, .int .i64 er, .int .i64 line, .slice A l.length c, .int .i64 now] wr)) (fun _ _ p _ => l.length - (intOf p).toNat)
  · exact ⟨0, rfl, by simp [sumL], ⟨Nat.zero_le _⟩, ⟨Kd.R_nil _ _ _ _ _⟩, B1, R1⟩
  · obtain ⟨i, rfl, rfl, HI, HR, HBr, HXr⟩ := hrel
    have q3 := HXr.out.cell 3 _ rfl
    by_cases ci : i < l.length
    · have ci1 : decide ((i : Int) < (l.length : Int)) = true := decide_eq_true (by omega)
      have ci2 : (i : Int) < (l.length : Int) := by omega
      have ci3 : (0 : Int) ≤ (i : Int) := by omega
      have hsz := HSUM.out
      have hst := sumL_take l (i + 1)
      have hll := HLL.out
      obtain ⟨x, hx⟩ : ∃ x, l[i]? = some x := ⟨_, List.getElem?_eq_getElem ci⟩
      have hts : sumL (l.take (i + 1)) = sumL (l.take i) + (3 + x.f0.size) := by rw [take_snoc hx]; simp [sumL]
      obtain ⟨s, hs⟩ : ∃ s : Nat, id.size + sumL (l.take i) = s := ⟨_, rfl⟩
      have HSN := Aside0.mk (show id.size + sumL (l.take (i + 1)) = s + 3 + x.f0.size by omega)
      have hw1 : wrap64 ((i : Int) + 1) = (i : Int) + 1 := by unfold wrap64; omega
      have hw2 : wrap64 ((s : Int) + 3) = (s : Int) + 3 := by unfold wrap64; omega
      have hw3 : wrap64 ((s : Int) + 3 + (x.f0.size : Int)) = (s : Int) + 3 + (x.f0.size : Int) := by unfold wrap64; omega
      rw [hs]
      obtain ⟨ad, rfl, d0, d1, d2⟩ := at_T28 (HC.out wr (by rw [HBO.out]; exact HBr.out)) (i : Int) ci3 ci2
      have hrd : rd_T28 l (i : Int) = x := by unfold rd_T28; rw [Int.toNat_natCast, List.getD_eq_getElem?_getD, hx]; rfl
      rw [hrd, Int.toNat_natCast] at d0 d1 d2
      have HX2 := Aside0.mk (take_snoc hx)
      have HSZ := Aside0.mk (show ((l.take i).length + 1) * 32 ≤ 140737488355328 by rw [List.length_take]; omega)
      have HS := Aside0.mk (show bo + 1 ≤ wr.heap.size from HXr.out.lt)
      clear hrd hx hts hsz hst hll hs
      go_wp2_with (first | (
        (with_reducible refine gate_builtin (b := .append) (xs := #[.tmp 39, .tmp 45]) rfl ?_)
        at_builtin
        refine Kd.R_append k28 (w0 := wr) (bo + 1) rfl (.tmp 39) (.tmp 45) 23 28 (.agg #[.string ⟨#[]⟩, .int .i64 0, .int .i64 0]) 32 rfl Try.underlying23 info28 rfl (by decide) (by decide) _ (l.take i) x [.string x.f0, .int .i64 x.f1, .int .i64 x.f2] (fun _ => True) (fun _ => False) rfl rfl (k28_mkM _ _ _ x) (fun _ h => h.elim) (fun _ _ => trivial) HR.out (Below.refl _ _) HS.out HSZ.out ?_
        intro v1 w8 ho hb hg hat
        have HO8 := Aside0.mk (show k28.R 28 w8 (bo + 1) (fun _ => True) v1 (l.take (i + 1)) by rw [HX2.out]; exact ho)
        have B8 := Aside0.mk (HBr.out.trans (hb.mono (Nat.le_succ _)))
        have R8 := Aside0.mk (show Rt 25 bo [.string id, .int .i64 er, .int .i64 line, .slice (some ad) l.length c, .int .i64 now] w8 from (hb.block bo (Nat.lt_succ_self _)).trans HXr.out)
        clear ho hb hg hat))
      refine ⟨⟨i + 1, congrArg (Value.int .i64) (by omega), congrArg (Value.int .i64) (by have := HSN.out; omega), ⟨ci⟩, HO8, B8, R8⟩, ?_⟩
      rw [hw1]
      show l.length - ((i : Int) + 1).toNat < l.length - ((i : Nat) : Int).toNat
      omega
    · have ci1 : decide ((i : Int) < (l.length : Int)) = false := decide_eq_false (by omega)
      have ci3 : decide (i < l.length) = false := decide_eq_false ci
      obtain rfl : i = l.length := by have := HI.out; omega
      rw [List.take_length] at HR ⊢
      have hgt : ¬ ((1048576 : Int) < ((id.size + sumL l : Nat) : Int)) := by have := HSUM.out; omega
      have hg1 : decide ((1048576 : Int) < ((id.size + sumL l : Nat) : Int)) = false := decide_eq_false hgt
      obtain ⟨s, hs⟩ : ∃ s : Nat, id.size + sumL l = s := ⟨_, rfl⟩
      rw [hs] at hgt hg1 ⊢
      have hg2 : decide (1048576 < s) = false := decide_eq_false (by omega)
      have HGT := Aside0.mk hgt
      clear hgt ci hs
      have q0 := HXr.out.cell 0 _ rfl
      have q1 := HXr.out.cell 1 _ rfl
      have q2 := HXr.out.cell 2 _ rfl
      have q4 := HXr.out.cell 4 _ rfl
      obtain ⟨Aw, cw, hcv, hcw, hWC⟩ := Kd.R_reads HR.out
      subst hcv
      have R1' := Aside0.mk HXr.out
      have B1' := Aside0.mk HBr.out
      have CW1 := Aside0.mk hWC
      have HCW := Aside0.mk hcw
      clear HR HI HXr HBr hWC hcw B1 R1
      obtain ⟨w2, hw2⟩ : ∃ w2, wr = w2 := ⟨_, rfl⟩
      have HPR := Aside0.mk (PutReply_at id er line now A l.length c l wr (HC.out wr (by rw [HBO.out]; exact B1'.out)) HLO.out H123.out.1 H123.out.2.1 H123.out.2.2 (by have := bulkL_sum l; have := HSUM.out; omega))
      have HRP := Aside0.mk (refPutReply_ok id er line now l HLO.out H123.out.1 H123.out.2.1 H123.out.2.2 (by have := bulkL_sum l; have := HSUM.out; omega))
      clear hw2
      obtain ⟨P, hP⟩ : ∃ P, putOut 4096 (82 :: encReply id er line l now) = P := ⟨_, rfl⟩
      obtain ⟨ec, hec⟩ : ∃ ec, putCode 4096 (82 :: encReply id er line l now) = ec := ⟨_, rfl⟩
      rw [hP, hec] at HPR HRP
      clear hP hec
      go_wp2_with fail
      go_at_call 11
      refine HPR.out.mono ?_
      rintro e w2 ⟨v, rfl, hR, hb⟩
      obtain ⟨Ap, cp, rfl, hcp, hPC⟩ := Kd.R_reads hR
      have R2 := Aside0.mk (R1'.out.below hb)
      have B2 := Aside0.mk (B1'.out.trans (hb.mono (Nat.le_of_lt R1'.out.lt)))
      have CW2 := Aside0.mk (Kd.C_below CW1.out hb)
      have CP2 := Aside0.mk hPC
      have HRC := Aside0.mk (larderref09_PutReply.calls _ id er line A c l now P ec w2 (HC.out w2 (by rw [HBO.out]; exact B2.out)) HNC.out HRP.out)
      clear hR hb hPC hcp q0 q1 q2 q3 q4 HPR
      have q0 := R2.out.cell 0 _ rfl
      have q1 := R2.out.cell 1 _ rfl
      have q2 := R2.out.cell 2 _ rfl
      have q3 := R2.out.cell 3 _ rfl
      have q4 := R2.out.cell 4 _ rfl
      go_wp2_with fail
      go_at_call 12
      refine HRC.out.mono ?_
      rintro e w3 ⟨v, rfl, hR, hb⟩
      obtain ⟨Aq, cq, rfl, hcq, hQC⟩ := Kd.R_reads hR
      have R3 := Aside0.mk (R2.out.below hb)
      have B3 := Aside0.mk (B2.out.trans (hb.mono (Nat.le_of_lt R2.out.lt)))
      have CW3 := Aside0.mk (Kd.C_below CW2.out hb)
      have s1 : (convert 26 9 (.slice Ap P.length cp)).run Try.prog w3 = .ok (.string (strOfNums P)) w3 := Kd.C_string Try.underlying26 Try.underlying5 Try.underlying9 (Kd.C_below CP2.out hb)
      have s2 : (convert 26 9 (.slice Aq P.length cq)).run Try.prog w3 = .ok (.string (strOfNums P)) w3 := Kd.C_string Try.underlying26 Try.underlying5 Try.underlying9 hQC
      have t1 : ((strOfNums P).toList == (strOfNums P).toList) = true := by simp
      have t2 : ((strOfNums P).toList != (strOfNums P).toList) = false := by simp
      have u1 : (ec == ec) = true := by simp
      have u2 : (ec != ec) = false := by simp
      have HSL := Aside0.mk (larderref09_SameLevels.calls _ A c l Aw cw l true w3 (HC.out w3 (by rw [HBO.out]; exact B3.out)) HNC.out CW3.out HCW.out (sameLevels_ok l (by have := HLL.out; have := HSUM.out; omega)))
      clear hR hb hQC hcq q0 q1 q2 q3 q4 HRC
      have q3 := R3.out.cell 3 _ rfl
      go_wp2_with fail
      go_at_call 13
      refine HSL.out.mono ?_
      rintro e w4 ⟨rfl, hd⟩
      have hb : Below w3.heap.size w3 w4 := by
        obtain ⟨md, rfl⟩ := hd
        exact pw_below_drewN (Below.refl _ _) md
      have B4 := Aside0.mk (B3.out.trans (hb.mono (Nat.le_of_lt R3.out.lt)))
      have S4 := Aside0.mk (show bo ≤ w4.heap.size from Nat.le_trans (Nat.le_of_lt R3.out.lt) hb.size)
      have HLE := Aside0.mk (larderref01_Lent.calls A2 c2 xs xs w4 (HC2.out w4 (by rw [HBO.out]; exact B4.out)) HNC2.out (by unfold larderref01_Lent.f; rw [if_pos (by have := HN2.out; omega)]))
      clear hd hb s1 s2 t1 t2 u1 u2 q3 HSL
      go_wp2_with fail
      go_at_call 14
      refine HLE.out.mono ?_
      rintro e w5 ⟨v, rfl, hR, ⟨hsp, hcsp⟩, hb⟩
      obtain ⟨Am, cm, rfl, hcm, hMC⟩ := Kd.R_reads hR
      have B5 := Aside0.mk (B4.out.trans (hb.mono S4.out))
      have S5 := Aside0.mk (Nat.le_trans S4.out hb.size)
      have CM5 := Aside0.mk hMC
      have HCM := Aside0.mk hcm
      have CS5 := Aside0.mk (show Kd.C (Kd.int .u8) w5 Am (xs ++ marks9).length (xs ++ marks9) from hsp)
      have HCS := Aside0.mk (show (xs ++ marks9).length ≤ cm from hcsp)
      have HRA := Aside0.mk (Reply_at Am xs.length cm xs w5 hMC hcm HBY.out (by have := HN2.out; omega))
      clear hR hsp hcsp hb hMC hcm HLE
      obtain ⟨wh, hwh⟩ : ∃ wh, whole 82 4096 xs (pReply xs 4096) = wh := ⟨_, rfl⟩
      have HWH := Aside0.mk hwh
      rw [hwh] at HRA
      clear hwh
      go_wp2_with fail
      go_at_call 15
      refine HRA.out.mono ?_
      rintro e w6 ⟨hb, v, rfl, A5, n5, c5, rfl, hR5⟩
      obtain ⟨x, hx⟩ : ∃ x, outD wh = x := ⟨_, rfl⟩
      rw [hx] at hR5 ⊢
      obtain ⟨A5', c5', e5, hc5, hC5⟩ := Kd.R_reads hR5
      injection e5 with e6 e7 e8
      subst e6 e7 e8
      have B6 := Aside0.mk (B5.out.trans (hb.mono S5.out))
      have S6 := Aside0.mk (Nat.le_trans S5.out hb.size)
      have CM6 := Aside0.mk (Kd.C_below CM5.out hb)
      have CS6 := Aside0.mk (Kd.C_below CS5.out hb)
      have C56 := Aside0.mk hC5
      have HC5 := Aside0.mk hc5
      have HX := Aside0.mk hx
      obtain ⟨g1, hg1⟩ : ∃ g1, (endOf wh).1 = g1 := ⟨_, rfl⟩
      obtain ⟨g2, hg2⟩ : ∃ g2, (endOf wh).2 = g2 := ⟨_, rfl⟩
      rw [hg1, hg2]
      have HG := Aside0.mk (And.intro hg1 hg2)
      clear hb hR5 hC5 hc5 HRA hx hg1 hg2
      go_upto_region 16 with fail
      have hb7 : Below w6.heap.size w6 (w6.alloc (.cells #[.string x.id, .int .i64 x.er, .int .i64 x.line, .slice A5 x.levs.length c5, .int .i64 x.now] 25)) := below_alloc (Below.refl _ _) _
      have r7 : Rt 25 w6.heap.size [.string x.id, .int .i64 x.er, .int .i64 x.line, .slice A5 x.levs.length c5, .int .i64 x.now] (w6.alloc (.cells #[.string x.id, .int .i64 x.er, .int .i64 x.line, .slice A5 x.levs.length c5, .int .i64 x.now] 25)) := heap_alloc_new w6 _
      obtain ⟨b7, hb7e⟩ : ∃ b7, w6.heap.size = b7 := ⟨_, rfl⟩
      have B7 := Aside0.mk (B6.out.trans (hb7.mono S6.out))
      have S7 := Aside0.mk (Nat.le_trans S6.out hb7.size)
      have CM7 := Aside0.mk (Kd.C_below CM6.out hb7)
      have CS7 := Aside0.mk (Kd.C_below CS6.out hb7)
      have C57 := Aside0.mk (Kd.C_below C56.out hb7)
      rw [hb7e] at r7 ⊢
      have R7 := Aside0.mk r7
      clear hb7 r7 hb7e
      generalize w6.alloc (.cells #[.string x.id, .int .i64 x.er, .int .i64 x.line, .slice A5 x.levs.length c5, .int .i64 x.now] 25) = w7 at *
      have HRB := Aside0.mk (refReply_at A2 xs.length c2 xs w7 (HC2.out w7 (by rw [HBO.out]; exact B7.out)) HNC2.out HBY.out (by have := HN2.out; omega))
      rw [HWH.out, HG.out.1, HG.out.2, HX.out] at HRB
      go_wp2_with fail
      go_at_call 16
      refine HRB.out.mono ?_
      rintro e w8 ⟨hb, v, rfl, A6, n6, c6, rfl, hR6⟩
      obtain ⟨A6', c6', e6, hc6, hC6⟩ := Kd.R_reads hR6
      injection e6 with e7 e8 e9
      subst e7 e8 e9
      have hb9 : Below w8.heap.size w8 (w8.alloc (.cells #[.string x.id, .int .i64 x.er, .int .i64 x.line, .slice A6 x.levs.length c6, .int .i64 x.now] 25)) := below_alloc (Below.refl _ _) _
      have hb' := hb.trans (hb9.mono hb.size)
      have r9 : Rt 25 w8.heap.size [.string x.id, .int .i64 x.er, .int .i64 x.line, .slice A6 x.levs.length c6, .int .i64 x.now] (w8.alloc (.cells #[.string x.id, .int .i64 x.er, .int .i64 x.line, .slice A6 x.levs.length c6, .int .i64 x.now] 25)) := heap_alloc_new w8 _
      obtain ⟨b9, hb9e⟩ : ∃ b9, w8.heap.size = b9 := ⟨_, rfl⟩
      have B9 := Aside0.mk (B7.out.trans (hb'.mono S7.out))
      have S9 := Aside0.mk (Nat.le_trans S7.out hb'.size)
      have CM9 := Aside0.mk (Kd.C_below CM7.out hb')
      have CS9 := Aside0.mk (Kd.C_below CS7.out hb')
      have C59 := Aside0.mk (Kd.C_below C57.out hb')
      have C69 := Aside0.mk (Kd.C_below hC6 hb9)
      have HC6 := Aside0.mk hc6
      have R79 := Aside0.mk (R7.out.below hb')
      go_upto_region 17 with fail
      rw [hb9e] at r9
      have R9 := Aside0.mk r9
      clear hb9 r9 hb9e hb hb' hR6 hC6 hc6 HRB
      generalize w8.alloc (.cells #[.string x.id, .int .i64 x.er, .int .i64 x.line, .slice A6 x.levs.length c6, .int .i64 x.now] 25) = w9 at *
      have HSR := Aside0.mk (larderref09_SameReply.calls _ x.id x.er x.line A5 c5 x.levs x.now x.id x.er x.line A6 c6 x.levs x.now true w9 C59.out HC5.out C69.out HC6.out (sameReply_ok _ _ _ _ _ C59.out.2.1))
      have q0 := R79.out.cell 0 _ rfl
      have q1 := R79.out.cell 1 _ rfl
      have q2 := R79.out.cell 2 _ rfl
      have q3 := R79.out.cell 3 _ rfl
      have q4 := R79.out.cell 4 _ rfl
      have p0 := R9.out.cell 0 _ rfl
      have p1 := R9.out.cell 1 _ rfl
      have p2 := R9.out.cell 2 _ rfl
      have p3 := R9.out.cell 3 _ rfl
      have p4 := R9.out.cell 4 _ rfl
      have u1 : (g1 == g1) = true := by simp
      have u2 : (g2 == g2) = true := by simp
      go_wp2_with fail
      go_at_call 17
      refine HSR.out.mono ?_
      rintro e w10 ⟨rfl, hb⟩
      have B10 := Aside0.mk (B9.out.trans (hb.mono S9.out))
      have S10 := Aside0.mk (Nat.le_trans S9.out hb.size)
      have HKT := Aside0.mk (larderref01_Kept.calls Am cm xs A2 c2 xs true w10 (Kd.C_below CM9.out hb) HCM.out (HC2.out w10 (by rw [HBO.out]; exact B10.out)) HNC2.out (Kd.C_below CS9.out hb) HCS.out (by unfold larderref01_Kept.f; rw [if_pos rfl]))
      clear hb q0 q1 q2 q3 q4 p0 p1 p2 p3 p4 HSR
      go_wp2_with fail
      go_at_call 18
      refine HKT.out.mono ?_
      rintro e w11 ⟨rfl, hd⟩
      have hb : Below w10.heap.size w10 w11 := by
        obtain ⟨md, rfl⟩ := hd
        exact pw_below_drewN (Below.refl _ _) md
      have B11 := Aside0.mk (B10.out.trans (hb.mono S10.out))
      clear hd hb
      go_wp2_with fail
      go_ret
      rw [HBO.out]
      exact ⟨rfl, B11.out⟩
end Go.Proofs.Ytafmoglaockepaa.Cd
namespace Go.Proofs.Ytafmoglaockepaa.Cd
open Go Go.Deep Go.ChangeShapes Go.WideShapes Go.RowKit Go.Proofs.Ytafmoglaockepaa.Num Go.Proofs.Ytafmoglaockepaa.PG Go.Proofs.YtafmoglaockepaaW.PrintWords Go.Proofs.YtafmoglaockepaaW.PrintLast Go.Proofs.YtafmoglaockepaaW.PrintMore
set_option linter.unusedVariables false
set_option maxRecDepth 100000
theorem bytesArg {H : Type} {enc : TypeId × Value → H} {W : World} {base : Nat} {held : Bool} {a : Option Addr} {len cap : Nat} {d : DataW H} {ps : List MemPlace}
    (h : DataW.Trod enc Try.prog W base (fun _ => true) held 26 (.slice a len cap) d ps) : ∃ zs : List Int, Kd.C (Kd.int .u8) W a len zs ∧ len ≤ cap ∧ (∀ v ∈ zs, (Lit.int .u8 v).wf = true) ∧ len + 1 ≤ Rows.uptoBulk d + 0 := by
  obtain ⟨fuel, hf⟩ := h
  rcases open_ints Try.underlying26 Try.underlying5 (by kernel_rfl) hf with ⟨hcs, hx⟩ | ⟨x, l, c, zs, hcs, _, hl, hm, hz, hx, hcell, hwz⟩
  · simp [Value.cells] at hcs
    obtain ⟨rfl, rfl, rfl⟩ := hcs
    obtain ⟨hx, _⟩ := Prod.mk.inj hx
    subst hx
    exact ⟨[], Kd.C_nil _ _, Nat.le_refl _, fun _ hp => (by cases hp), by simp [Rows.uptoBulk]⟩
  · simp [Value.cells] at hcs
    obtain ⟨rfl, rfl, rfl⟩ := hcs
    have hz : zs.length = cap := by simpa using hz
    obtain ⟨hx, _⟩ := Prod.mk.inj hx
    subst hx
    refine ⟨zs.take len, Kd.C_of_reads (d := (0 : Int)) (h1 := fun _ => rfl) ⟨by rw [List.length_take]; omega, by simp only [maxLen] at hm; omega, fun _ => ⟨x, rfl, fun i hi => ?_⟩⟩, hl, fun v hv => hwz v (List.mem_of_mem_take hv), ?_⟩
    · rw [hcell i (by omega)]
      congr 2
      rw [List.getD_eq_getElem?_getD, List.getD_eq_getElem?_getD, List.getElem?_take, if_pos hi]
    · have h1 := Bulk.length_le (lits (H := H) .u8 (zs.take len))
      simp only [Rows.uptoBulk]
      have h2 : (lits (H := H) .u8 (zs.take len)).length = len := by
        simp [lits]
        omega
      omega
theorem isBytes_of {zs : List Int} (h : ∀ v ∈ zs, (Lit.int .u8 v).wf = true) : IsBytes zs := by
  intro v hv
  have := bounds_u8 (h v hv)
  omega
theorem trod_struct5 {H : Type} {enc : TypeId × Value → H} {P : Program} {w : World} {base : Nat} {spare : Nat → Bool} {held : Bool} {t : TypeId} {f0 f1 f2 f3 f4 : Field} {fuel : Nat} {cs : List Value} {x : DataW H × List MemPlace} (ht : P.underlying t = some (.struct #[f0, f1, f2, f3, f4])) (h : DataW.trod enc P w base spare held fuel t cs = some x) :
    ∃ y0 y1 y2 y3 y4 n, x.1 = .agg [y0.1, y1.1, y2.1, y3.1, y4.1] ∧ cs.length = P.cellsOf t ∧ DataW.trod enc P w base spare held n f0.type ((cs.drop f0.offset).take (P.cellsOf f0.type)) = some y0 ∧
      DataW.trod enc P w base spare held n f1.type ((cs.drop f1.offset).take (P.cellsOf f1.type)) = some y1 ∧ DataW.trod enc P w base spare held n f2.type ((cs.drop f2.offset).take (P.cellsOf f2.type)) = some y2 ∧
      DataW.trod enc P w base spare held n f3.type ((cs.drop f3.offset).take (P.cellsOf f3.type)) = some y3 ∧ DataW.trod enc P w base spare held n f4.type ((cs.drop f4.offset).take (P.cellsOf f4.type)) = some y4 := by
  obtain ⟨xs, n, _, rfl, hl, hlen, hf⟩ := DataW.trod_struct ht h
  match xs, hlen with
  | [y0, y1, y2, y3, y4], _ => exact ⟨y0, y1, y2, y3, y4, n, by simp, hl, by simpa using hf 0 f0 rfl, by simpa using hf 1 f1 rfl, by simpa using hf 2 f2 rfl, by simpa using hf 3 f3 rfl, by simpa using hf 4 f4 rfl⟩
theorem list3 {α : Type} {cs : List α} (h : cs.length = 3) : ∃ c0 c1 c2, cs = [c0, c1, c2] := by
  match cs, h with
  | [c0, c1, c2], _ => exact ⟨c0, c1, c2, rfl⟩
theorem list5 {α : Type} {cs : List α} (h : cs.length = 5) : ∃ c0 c1 c2 c3 c4, cs = [c0, c1, c2, c3, c4] := by
  match cs, h with
  | [c0, c1, c2, c3, c4], _ => exact ⟨c0, c1, c2, c3, c4, rfl⟩
theorem array5 {α : Type} {cs : Array α} (h : cs.size = 5) : ∃ c0 c1 c2 c3 c4, cs = #[c0, c1, c2, c3, c4] := by
  obtain ⟨l⟩ := cs
  obtain ⟨c0, c1, c2, c3, c4, rfl⟩ := list5 (show l.length = 5 by simpa using h)
  exact ⟨c0, c1, c2, c3, c4, rfl⟩
theorem int64_of {a : Int} (h : (Lit.int .i64 a).wf = true) : Int64 a := by
  have := bounds_i64 h
  unfold Int64
  omega
theorem sum_bulk {H : Type} (f : Nat → S28) (D : Nat → DataW H) : ∀ L : List Nat, (∀ i ∈ L, 3 + (f i).f0.size ≤ Rows.uptoBulk (D i)) → sumL (L.map f) ≤ Rows.uptoBulkAll (L.map D)
  | [], _ => by simp [sumL]
  | i :: L, h => by
    have h1 := sum_bulk f D L (fun j hj => h j (List.mem_cons_of_mem _ hj))
    have h2 := h i (List.mem_cons_self ..)
    simp only [sumL, Rows.uptoBulkAll, List.map_cons, List.sum_cons] at h1 ⊢
    omega
theorem levelsArg {H : Type} {enc : TypeId × Value → H} {W : World} {base : Nat} {held : Bool} {a : Option Addr} {len cap : Nat} {d : DataW H} {ps : List MemPlace}
    (h : DataW.Trod enc Try.prog W base (fun _ => true) held 23 (.slice a len cap) d ps) : ∃ l : List S28, Kd.C k28 W a len l ∧ len ≤ cap ∧ LevOk l ∧ sumL l ≤ Rows.uptoBulk d := by
  obtain ⟨fuel, hf⟩ := h
  have c3 : Try.prog.cellsOf 3 = 1 := by kernel_rfl
  have c9 : Try.prog.cellsOf 9 = 1 := by kernel_rfl
  have c28 : Try.prog.cellsOf 28 = 3 := by kernel_rfl
  rcases open_slice Try.underlying23 hf with ⟨hcs, _⟩ | ⟨ad, l, c, m, n, D, Pl, hcs, _, hl, hm, hmm, hx, hr⟩
  · simp [Value.cells] at hcs
    obtain ⟨rfl, rfl, rfl⟩ := hcs
    exact ⟨[], Kd.C_nil _ _, Nat.le_refl _, fun _ hp => (by cases hp), by simp [sumL]⟩
  · simp [Value.cells] at hcs
    obtain ⟨rfl, rfl, rfl⟩ := hcs
    rw [if_pos rfl] at hmm
    have hcell : ∀ i, i < len → ∃ p : S28, W.cell? (ad.add (i * 3)) = some (.string p.f0) ∧ W.cell? (ad.add (i * 3 + 1)) = some (.int .i64 p.f1) ∧ W.cell? (ad.add (i * 3 + 2)) = some (.int .i64 p.f2) ∧ (Int64 p.f1 ∧ Int64 p.f2) ∧ 3 + p.f0.size ≤ Rows.uptoBulk (D i) := fun i hi => by
      obtain ⟨cs, hc, ht⟩ := hr i (by omega)
      rw [c28] at hc
      obtain ⟨y0, y1, y2, n', hy, hlen, h0, h1, h2⟩ := trod_struct3 Try.underlying28 ht
      rw [c28] at hlen
      obtain ⟨_, _, hat⟩ := World.cells?_some hc
      obtain ⟨v0, v1, v2, rfl⟩ := list3 hlen
      simp only [c3, c9] at h0 h1 h2
      obtain ⟨k0, e0, x0, w0⟩ := DataW.trod_string Try.underlying9 h0
      obtain ⟨k1, e1, x1, w1⟩ := DataW.trod_int Try.underlying3 h1
      obtain ⟨k2, e2, x2, w2⟩ := DataW.trod_int Try.underlying3 h2
      simp at e0 e1 e2
      subst e0
      subst e1
      subst e2
      have g0 := hat (i := 0) (by decide)
      have g1 := hat (i := 1) (by decide)
      have g2 := hat (i := 2) (by decide)
      rw [Go.Deep.add_add, Nat.add_zero] at g0
      rw [Go.Deep.add_add] at g1 g2
      refine ⟨⟨k0, k1, k2⟩, by simpa using g0, by simpa using g1, by simpa using g2, ⟨int64_of w1, int64_of w2⟩, ?_⟩
      have hD : D i = .agg [y0.1, y1.1, y2.1] := congrArg Prod.fst hy
      rw [hD, x0, x1, x2]
      simp only [Rows.uptoBulk, Rows.uptoBulkAll]
      have : k0.data.toList.length = k0.size := by rw [Array.length_toList]; rfl
      omega
    obtain ⟨f, hfun⟩ : ∃ f : Nat → S28, ∀ i, i < len → W.cell? (ad.add (i * 3)) = some (.string (f i).f0) ∧ W.cell? (ad.add (i * 3 + 1)) = some (.int .i64 (f i).f1) ∧ W.cell? (ad.add (i * 3 + 2)) = some (.int .i64 (f i).f2) ∧ (Int64 (f i).f1 ∧ Int64 (f i).f2) ∧ 3 + (f i).f0.size ≤ Rows.uptoBulk (D i) :=
      ⟨fun i => if h : i < len then (hcell i h).choose else z28, fun i hi => by simp only [dif_pos hi]; exact (hcell i hi).choose_spec⟩
    refine ⟨(List.range len).map f, ⟨by simp, by simp only [maxLen] at hm; omega, fun _ => ⟨ad, rfl, fun j p hj => ?_⟩⟩, hl, fun p hp => ?_, ?_⟩
    · obtain ⟨hj1, hj2⟩ := List.getElem?_eq_some_iff.1 hj
      have hjl : j < len := by simpa using hj1
      simp only [List.getElem_map, List.getElem_range] at hj2
      subst hj2
      obtain ⟨e0, e1, e2, _⟩ := hfun j hjl
      refine ⟨[.string (f j).f0, .int .i64 (f j).f1, .int .i64 (f j).f2], by rfl, k28_mk W (f j), fun i u hu => ?_⟩
      show W.cell? (ad.add (j * 3 + i)) = _
      match i, hu with
      | 0, hu => simp at hu; subst hu; rw [Nat.add_zero]; exact e0
      | 1, hu => simp at hu; subst hu; exact e1
      | 2, hu => simp at hu; subst hu; exact e2
      | i + 3, hu => simp at hu
    · obtain ⟨i, hi, rfl⟩ := List.mem_map.1 hp
      exact (hfun i (List.mem_range.1 hi)).2.2.2.1
    · have hd : d = .slice ((List.range len).map D) ((List.range (m - len)).map fun j => D (len + j)) := congrArg Prod.fst hx
      rw [hd]
      simp only [Rows.uptoBulk]
      have := sum_bulk f D (List.range len) (fun i hi => (hfun i (List.mem_range.1 hi)).2.2.2.2)
      omega
open Go.Joins in
theorem replyArg {H : Type} {enc : TypeId × Value → H} {W : World} {base b0 : Nat} {r : Reach} {held : Bool} {v : Value} {d : DataW H} {ps : List MemPlace} (hv : Value.okWide Try.prog W r b0 25 v)
    (h : DataW.Trod enc Try.prog W base (fun _ => true) held 25 v d ps) : ∃ (id : ByteArray) (er line : Int) (a : Option Addr) (len cap : Nat) (now : Int) (l : List S28), v = .agg #[.string id, .int .i64 er, .int .i64 line, .slice a len cap, .int .i64 now] ∧
      Kd.C k28 W a len l ∧ len ≤ cap ∧ LevOk l ∧ Int64 er ∧ Int64 line ∧ Int64 now ∧ id.size + sumL l + 1 ≤ Rows.uptoBulk d := by
  have c3 : Try.prog.cellsOf 3 = 1 := by kernel_rfl
  have c9 : Try.prog.cellsOf 9 = 1 := by kernel_rfl
  have c22 : Try.prog.cellsOf 22 = 1 := by kernel_rfl
  have c23 : Try.prog.cellsOf 23 = 1 := by kernel_rfl
  have c25 : Try.prog.cellsOf 25 = 5 := by kernel_rfl
  obtain ⟨cs, rfl, hsz⟩ := okWide_struct Try.underlying25 hv
  obtain ⟨v0, v1, v2, v3, v4, rfl⟩ := array5 (hsz.trans c25)
  obtain ⟨fuel, hf⟩ := h
  obtain ⟨y0, y1, y2, y3, y4, n, hx, _, h0, h1, h2, h3, h4⟩ := trod_struct5 Try.underlying25 hf
  simp only [c3, c9, c22, c23] at h0 h1 h2 h3 h4
  have h0' : DataW.trod enc Try.prog W base (fun _ => true) held n 9 [v0] = some y0 := h0
  have h1' : DataW.trod enc Try.prog W base (fun _ => true) held n 22 [v1] = some y1 := h1
  have h2' : DataW.trod enc Try.prog W base (fun _ => true) held n 3 [v2] = some y2 := h2
  have h3' : DataW.trod enc Try.prog W base (fun _ => true) held n 23 [v3] = some y3 := h3
  have h4' : DataW.trod enc Try.prog W base (fun _ => true) held n 3 [v4] = some y4 := h4
  clear h0 h1 h2 h3 h4
  obtain ⟨k0, e0, x0, _⟩ := DataW.trod_string Try.underlying9 h0'
  obtain ⟨k1, e1, x1, w1⟩ := DataW.trod_int Try.underlying22 h1'
  obtain ⟨k2, e2, x2, w2⟩ := DataW.trod_int Try.underlying3 h2'
  obtain ⟨k4, e4, x4, w4⟩ := DataW.trod_int Try.underlying3 h4'
  simp at e0 e1 e2 e4
  subst e0 e1 e2 e4
  obtain ⟨a, len, cap, rfl⟩ : ∃ a len cap, v3 = .slice a len cap := by
    rcases open_slice Try.underlying23 h3' with ⟨hcs, _⟩ | ⟨ad, l, c, _, _, _, _, hcs, _⟩
    · simp at hcs; exact ⟨_, _, _, hcs⟩
    · simp at hcs; exact ⟨_, _, _, hcs⟩
  obtain ⟨l, hC, hl, hlo, hb⟩ := levelsArg (len := len) (cap := cap) (a := a) (d := y3.1) (ps := y3.2) ⟨n, h3'⟩
  refine ⟨k0, k1, k2, a, len, cap, k4, l, rfl, hC, hl, hlo, int64_of w1, int64_of w2, int64_of w4, ?_⟩
  have hd : d = .agg [y0.1, y1.1, y2.1, y3.1, y4.1] := hx
  rw [hd, x0]
  simp only [Rows.uptoBulk, Rows.uptoBulkAll]
  have : k0.data.toList.length = k0.size := by rw [Array.length_toList]; rfl
  omega
end Go.Proofs.Ytafmoglaockepaa.Cd
