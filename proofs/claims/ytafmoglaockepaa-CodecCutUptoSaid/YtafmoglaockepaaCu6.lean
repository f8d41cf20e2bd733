/- What the codec writes and reads: texts of this session joined, with what is not needed left out. -/
import Derived.Test.YtafmoglaockepaaCu2
import Derived.Test.YtafmoglaockepaaCu5
import Derived.Test.YtafmoglaockepaaCu4
import Derived.Deep.RegionHeld3
import Derived.Deep.RegionLaw
import Derived.Test.YtafmoglaockepaaCu3
import Derived.Test.YtafmoglaockepaaRows
import Derived.WalkKit
import Derived.ProofKit
import Derived.OpenShut
import Derived.SizedLaws
import Derived.Deep.Slices
import Derived.Deep.Strs
import Derived.ChangeSame
import Derived.Lib.SmallJoins
section
namespace Go.Proofs.Ytafmoglaockepaa.Cd
open Go Go.RowKit Go.Proofs.Ytafmoglaockepaa.Num Go.Proofs.Ytafmoglaockepaa.PG Go.Proofs.YtafmoglaockepaaW.PrintWords Go.Proofs.YtafmoglaockepaaW.PrintLast Go.Proofs.YtafmoglaockepaaW.PrintMore
set_option linter.unusedVariables false
set_option linter.unusedSimpArgs false
theorem one_cut {a : Int} {t r : List Int} (hr : r ≠ []) (h : t ++ r = [a]) : t = [] := by
  cases t with
  | nil => rfl
  | cons c t =>
    rw [List.cons_append] at h
    injection h with h1 h2
    simp at h2
    exact absurd h2.2 hr
theorem ug_cut (f : Nat) : ∀ (i m n : Nat) (t r : List Int), i + f = 10 → m < 128 ^ f → r ≠ [] → t ++ r = enc f m → (ug i n t).2 = (((i + t.length : Nat) : Int), 3) := by
  induction f with
  | zero =>
    intro i m n t r _ _ hr h
    rw [enc] at h
    simp at h
    exact absurd h.2 hr
  | succ f ih =>
    intro i m n t r hi hm hr h
    rw [enc] at h
    by_cases c : m < 128
    · rw [if_pos c] at h
      rw [one_cut hr h, ug]
      rfl
    · rw [if_neg c] at h
      cases t with
      | nil => rw [ug]; rfl
      | cons a t =>
        rw [List.cons_append] at h
        injection h with h1 h2
        have hf : 0 < f := by
          rcases Nat.eq_zero_or_pos f with h1 | h1
          · subst h1; simp at hm; omega
          · exact h1
        have hm2 : m / 128 < 128 ^ f := by rw [Nat.pow_succ] at hm; omega
        rw [ug, if_neg (by omega), if_neg (by omega), if_neg (by omega), ih (i + 1) (m / 128) _ t r (by omega) hm2 hr h2, List.length_cons]
        congr 2
        omega
theorem ug_cut0 {m : Nat} (hm : m < 18446744073709551616) {t r : List Int} (hr : r ≠ []) (h : t ++ r = enc 10 m) : (ug 0 0 t).2 = ((t.length : Int), 3) := by
  rw [ug_cut 10 0 m 0 t r rfl (Nat.lt_of_lt_of_le hm pow10) hr h, Nat.zero_add]
variable {xs : List Int} {most : Nat}
theorem took_bad {α : Type} {n : Nat} {r : α × Int × Int} {e p : Int} (h : r.2 = (p, e)) (he : e ≠ 0) : took n r = .fail e ((n : Int) + p) := by
  unfold took
  rw [h, if_neg he]
theorem place {n : Nat} (hn : n ≤ xs.length) : (n : Int) + ((xs.drop n).length : Int) = (xs.length : Int) := by
  rw [List.length_drop]
  omega
theorem pU_cut {u n : Nat} {s : List Int} (hn : n ≤ xs.length) (hu : u < 18446744073709551616) (hs : s ≠ []) (h : xs.drop n ++ s = encU u) : pU xs most n = .fail 3 (xs.length : Int) := by
  unfold pU
  rw [took_bad (ug_cut0 hu hs h) (by decide), place hn]
  rfl
theorem pI_cut {a : Int} {n : Nat} {s : List Int} (hn : n ≤ xs.length) (ha : Int64 a) (hs : s ≠ []) (h : xs.drop n ++ s = encI a) : pI xs n = .fail 3 (xs.length : Int) := by
  have e := ug_cut0 (zz_lt ha.1 ha.2) hs h
  unfold pI
  rw [took_bad (e := 3) (p := ((xs.drop n).length : Int)) (by unfold ig; exact e) (by decide), place hn]
theorem split2 {a b c d : List Int} (h : a ++ b = c ++ d) : (∃ t, c = a ++ t ∧ b = t ++ d) ∨ (∃ t, a = c ++ t ∧ d = t ++ b) := List.append_eq_append_iff.1 h
theorem pT_cut {x : ByteArray} {n : Nat} {s : List Int} (hn : n ≤ xs.length) (hx : x.size ≤ most) (hm : most < 18446744073709551616) (hs : s ≠ []) (h : xs.drop n ++ s = encT x) : pT xs most n = .fail 3 (xs.length : Int) := by
  have hl : (bytesOf x).length = x.size := bytesOf_length x
  unfold pT
  unfold encT at h
  have key : (tx most (xs.drop n)).2 = (((xs.drop n).length : Int), 3) := by
    unfold tx
    rcases split2 h with ⟨t, e1, e2⟩ | ⟨t, e1, e2⟩
    · by_cases ht : t = []
      · subst ht
        rw [List.append_nil] at e1
        have e3 := ug_enc0 x.size (by omega) []
        rw [List.append_nil, e1] at e3
        have hl2 : 1 ≤ x.size := by
          rw [List.nil_append] at e2
          rw [e2] at hs
          rcases Nat.eq_zero_or_pos x.size with h0 | h0
          · rw [h0] at hl
            exact absurd (List.eq_nil_of_length_eq_zero hl) hs
          · exact h0
        rw [e3]
        simp only [if_true]
        rw [if_neg (by omega), if_pos (by omega)]
      · have e3 := ug_cut0 (by omega) ht e1.symm
        rw [e3]
        simp only []
        rw [if_neg (by decide)]
    · rw [e1, ug_enc0 x.size (by omega) t]
      have e4 : t.length + s.length = x.size := by rw [← hl, e2, List.length_append]
      have e5 : 0 < s.length := List.length_pos_iff.2 hs
      simp only [if_true]
      rw [if_neg (by omega), if_pos (by rw [List.length_append]; omega)]
  rw [took_bad key (by decide), place hn]
theorem cut_bind {α β : Type} {n : Nat} {s e e' : List Int} {r : Res α} {f : α → Nat → Res β} {x : α} (hn : n ≤ xs.length) (hs : s ≠ []) (h : xs.drop n ++ s = e ++ e')
    (hg : ∀ t, xs.drop n = e ++ t → r = .ok x (n + e.length)) (hc : ∀ s, s ≠ [] → xs.drop n ++ s = e → r = .fail 3 (xs.length : Int))
    (hf : ∀ s, n + e.length ≤ xs.length → s ≠ [] → xs.drop (n + e.length) ++ s = e' → f x (n + e.length) = .fail 3 (xs.length : Int)) : r.bind f = .fail 3 (xs.length : Int) := by
  have go : ∀ t, xs.drop n = e ++ t → t ++ s = e' → r.bind f = .fail 3 (xs.length : Int) := by
    intro t h1 h2
    rw [hg t h1]
    have h3 := drop_next h1
    have h4 : e.length + t.length = xs.length - n := by
      have := congrArg List.length h1
      rw [List.length_drop, List.length_append] at this
      omega
    exact hf s (by omega) hs (by rw [h3]; exact h2)
  rcases split2 h with ⟨t, e1, e2⟩ | ⟨t, e1, e2⟩
  · by_cases ht : t = []
    · subst ht
      rw [List.append_nil] at e1
      exact go [] (by rw [List.append_nil]; exact e1.symm) e2
    · rw [hc t ht e1.symm]
      rfl
  · exact go t e1 e2.symm
theorem pN_cut {α : Type} {one : Nat → Res α} {encE : α → List Int} : ∀ (l acc : List α) (n : Nat) (s : List Int), n ≤ xs.length → s ≠ [] → (∀ x ∈ l, ∀ n t, xs.drop n = encE x ++ t → one n = .ok x (n + (encE x).length)) →
    (∀ x ∈ l, ∀ n s, n ≤ xs.length → s ≠ [] → xs.drop n ++ s = encE x → one n = .fail 3 (xs.length : Int)) → xs.drop n ++ s = l.flatMap encE → pN one l.length acc n = .fail 3 (xs.length : Int)
  | [], acc, n, s, hn, hs, _, _, h => by
    simp at h
    exact absurd h.2 hs
  | x :: l, acc, n, s, hn, hs, ho, hc, h => by
    rw [List.flatMap_cons] at h
    rw [List.length_cons, pN]
    exact cut_bind hn hs h (fun t ht => ho x (List.mem_cons_self ..) n t ht) (fun s hs h => hc x (List.mem_cons_self ..) n s hn hs h)
      (fun s hn hs h => pN_cut l (acc ++ [x]) _ s hn hs (fun y hy => ho y (List.mem_cons_of_mem _ hy)) (fun y hy => hc y (List.mem_cons_of_mem _ hy)) h)
theorem pList_cut {α : Type} {one : Nat → Res α} {encE : α → List Int} {l : List α} {n : Nat} {s : List Int} (hn : n ≤ xs.length) (hs : s ≠ []) (ho : ∀ x ∈ l, ∀ n t, xs.drop n = encE x ++ t → one n = .ok x (n + (encE x).length))
    (hc : ∀ x ∈ l, ∀ n s, n ≤ xs.length → s ≠ [] → xs.drop n ++ s = encE x → one n = .fail 3 (xs.length : Int)) (hl : l.length ≤ most) (hm : most < 18446744073709551616) (h : xs.drop n ++ s = encU l.length ++ l.flatMap encE) : pList xs most one n = .fail 3 (xs.length : Int) :=
  cut_bind hn hs h (fun t ht => pU_enc xs most n l.length t ht hl hm) (fun s hs h => pU_cut hn (by omega) hs h) (fun s hn hs h => pN_cut l [] _ s hn hs ho hc h)
theorem pLine_cut (hm : most < 18446744073709551616) (x : S110) (h1 : x.f0.size ≤ most) (h2 : Int64 x.f1) (n : Nat) (s : List Int) (hn : n ≤ xs.length) (hs : s ≠ []) (h : xs.drop n ++ s = encN x) : pLine xs most n = .fail 3 (xs.length : Int) :=
  cut_bind hn hs h (fun t ht => pT_enc xs most n x.f0 t ht h1 hm) (fun s hs h => pT_cut hn h1 hm hs h) (fun s hn hs h => by rw [pI_cut hn h2 hs h]; rfl)
theorem pLevel_cut (hm : most < 18446744073709551616) (x : S28) (h1 : x.f0.size ≤ most) (h2 : Int64 x.f1 ∧ Int64 x.f2) (n : Nat) (s : List Int) (hn : n ≤ xs.length) (hs : s ≠ []) (h : xs.drop n ++ s = encL x) : pLevel xs most n = .fail 3 (xs.length : Int) :=
  cut_bind hn hs h (fun t ht => pT_enc xs most n x.f0 t ht h1 hm) (fun s hs h => pT_cut hn h1 hm hs h) (fun s hn hs h =>
    cut_bind hn hs h (fun t ht => pI_enc xs _ x.f1 t ht h2.1) (fun s hs h => pI_cut hn h2.1 hs h) (fun s hn hs h => by rw [pI_cut hn h2.2 hs h]; rfl))
theorem pLines_cut (hm : most < 18446744073709551616) (l : List S110) (hf : LinFit most l) (ho : LinOk l) (n : Nat) (s : List Int) (hn : n ≤ xs.length) (hs : s ≠ []) (h : xs.drop n ++ s = encU l.length ++ encNs l) : pList xs most (pLine xs most) n = .fail 3 (xs.length : Int) :=
  pList_cut hn hs (fun x hx n t h => pLine_enc hm x (hf.2 x hx) (ho x hx) n t h) (fun x hx n s hn hs h => pLine_cut hm x (hf.2 x hx) (ho x hx) n s hn hs h) hf.1 hm h
theorem pLevels_cut (hm : most < 18446744073709551616) (l : List S28) (hf : LevFit most l) (ho : LevOk l) (n : Nat) (s : List Int) (hn : n ≤ xs.length) (hs : s ≠ []) (h : xs.drop n ++ s = encU l.length ++ encLs l) : pList xs most (pLevel xs most) n = .fail 3 (xs.length : Int) :=
  pList_cut hn hs (fun x hx n t h => pLevel_enc hm x (hf.2 x hx) (ho x hx) n t h) (fun x hx n s hn hs h => pLevel_cut hm x (hf.2 x hx) (ho x hx) n s hn hs h) hf.1 hm h
theorem pReq_cut (hm : most < 18446744073709551616) (q : S40) (hf : ReqFit most q) (ho : ReqOk q) (n : Nat) (s : List Int) (hn : n ≤ xs.length) (hs : s ≠ []) (h : xs.drop n ++ s = encQ q) : pReq xs most n = .fail 3 (xs.length : Int) := by
  obtain ⟨f0, f2, f3⟩ := hf
  obtain ⟨o1, o2, o4, o5⟩ := ho
  unfold encQ encReq at h
  exact cut_bind hn hs h (fun t ht => pT_enc xs most n q.f0 t ht f0 hm) (fun s hs h => pT_cut hn f0 hm hs h) (fun s hn hs h =>
    cut_bind hn hs h (fun t ht => pI_enc xs _ q.f1 t ht o1) (fun s hs h => pI_cut hn o1 hs h) (fun s hn hs h =>
    cut_bind hn hs h (fun t ht => pLines_enc hm q.f2 f2 o2 _ t ht) (fun s hs h => pLines_cut hm q.f2 f2 o2 _ s hn hs h) (fun s hn hs h =>
    cut_bind hn hs h (fun t ht => pT_enc xs most _ q.f3 t ht f3 hm) (fun s hs h => pT_cut hn f3 hm hs h) (fun s hn hs h =>
    cut_bind hn hs h (fun t ht => pI_enc xs _ q.f4 t ht o4) (fun s hs h => pI_cut hn o4 hs h) (fun s hn hs h => by rw [pI_cut hn o5 hs h]; rfl)))))
theorem pRec_cut (hm : most < 18446744073709551616) (x : RecD) (hf : ReqFit most x.f1) (h0 : Int64 x.f0) (ho : ReqOk x.f1) (n : Nat) (s : List Int) (hn : n ≤ xs.length) (hs : s ≠ []) (h : xs.drop n ++ s = encC x) : pRec xs most n = .fail 3 (xs.length : Int) :=
  cut_bind hn hs h (fun t ht => pI_enc xs _ x.f0 t ht h0) (fun s hs h => pI_cut hn h0 hs h) (fun s hn hs h => by rw [pReq_cut hm x.f1 hf ho _ s hn hs h]; rfl)
theorem pHeld_cut (hm : most < 18446744073709551616) (x : S121) (hf : HeldFit most x) (ho : HeldOk x) (n : Nat) (s : List Int) (hn : n ≤ xs.length) (hs : s ≠ []) (h : xs.drop n ++ s = encH x) : pHeld xs most n = .fail 3 (xs.length : Int) :=
  cut_bind hn hs h (fun t ht => pT_enc xs most n x.f0 t ht hf.1 hm) (fun s hs h => pT_cut hn hf.1 hm hs h) (fun s hn hs h =>
    cut_bind hn hs h (fun t ht => pLines_enc hm x.f1 hf.2 ho.1 _ t ht) (fun s hs h => pLines_cut hm x.f1 hf.2 ho.1 _ s hn hs h) (fun s hn hs h => by rw [pI_cut hn ho.2 hs h]; rfl))
theorem pDone_cut (hm : most < 18446744073709551616) (x : S123) (hf : ReqFit most x.f0) (ho : DoneOk x) (n : Nat) (s : List Int) (hn : n ≤ xs.length) (hs : s ≠ []) (h : xs.drop n ++ s = encD x) : pDone xs most n = .fail 3 (xs.length : Int) :=
  cut_bind hn hs h (fun t ht => pReq_enc hm x.f0 hf ho.1 _ t ht) (fun s hs h => pReq_cut hm x.f0 hf ho.1 _ s hn hs h) (fun s hn hs h => by rw [pI_cut hn ho.2 hs h]; rfl)
theorem pReply_cut (hm : most < 18446744073709551616) (x : RepD) (f0 : x.id.size ≤ most) (f3 : LevFit most x.levs) (h1 : Int64 x.er) (h2 : Int64 x.line) (h4 : Int64 x.now) (ho : LevOk x.levs) (n : Nat) (s : List Int) (hn : n ≤ xs.length) (hs : s ≠ []) (h : xs.drop n ++ s = encReply x.id x.er x.line x.levs x.now) : pReply xs most n = .fail 3 (xs.length : Int) := by
  unfold encReply at h
  exact cut_bind hn hs h (fun t ht => pT_enc xs most n x.id t ht f0 hm) (fun s hs h => pT_cut hn f0 hm hs h) (fun s hn hs h =>
    cut_bind hn hs h (fun t ht => pI_enc xs _ x.er t ht h1) (fun s hs h => pI_cut hn h1 hs h) (fun s hn hs h =>
    cut_bind hn hs h (fun t ht => pI_enc xs _ x.line t ht h2) (fun s hs h => pI_cut hn h2 hs h) (fun s hn hs h =>
    cut_bind hn hs h (fun t ht => pLevels_enc hm x.levs f3 ho _ t ht) (fun s hs h => pLevels_cut hm x.levs f3 ho _ s hn hs h) (fun s hn hs h => by rw [pI_cut hn h4 hs h]; rfl))))
theorem pSt_cut (hm : most < 18446744073709551616) (x : StD) (hf : StFit most x) (h0 : Int64 x.f0) (h1 : Int64 x.f1) (h2 : Int64 x.f2) (h3 : LevOk x.f3) (h4 : HeldsOk x.f4) (h5 : DonesOk x.f5) (n : Nat) (s : List Int) (hn : n ≤ xs.length) (hs : s ≠ []) (h : xs.drop n ++ s = encS x) : pSt xs most n = .fail 3 (xs.length : Int) := by
  obtain ⟨f3, f4, f5⟩ := hf
  unfold encS at h
  exact cut_bind hn hs h (fun t ht => pI_enc xs _ x.f0 t ht h0) (fun s hs h => pI_cut hn h0 hs h) (fun s hn hs h =>
    cut_bind hn hs h (fun t ht => pI_enc xs _ x.f1 t ht h1) (fun s hs h => pI_cut hn h1 hs h) (fun s hn hs h =>
    cut_bind hn hs h (fun t ht => pI_enc xs _ x.f2 t ht h2) (fun s hs h => pI_cut hn h2 hs h) (fun s hn hs h =>
    cut_bind hn hs h (fun t ht => pLevels_enc hm x.f3 f3 h3 _ t ht) (fun s hs h => pLevels_cut hm x.f3 f3 h3 _ s hn hs h) (fun s hn hs h =>
    cut_bind (e := encU x.f4.length ++ encHs x.f4) hn hs h (x := x.f4) (fun t ht => by
        rw [List.append_assoc] at ht
        rw [pList_enc (encE := encH) x.f4 _ t (fun y hy n t h => pHeld_enc hm y (f4.2 y hy) (h4 y hy) n t h) f4.1 hm ht]
        show Res.ok x.f4 _ = Res.ok x.f4 _
        congr 1
        unfold encHs
        rw [List.length_append (bs := x.f4.flatMap encH)]
        omega)
      (fun s hs h => pList_cut hn hs (fun y hy n t h => pHeld_enc hm y (f4.2 y hy) (h4 y hy) n t h) (fun y hy n s hn hs h => pHeld_cut hm y (f4.2 y hy) (h4 y hy) n s hn hs h) f4.1 hm h) (fun s hn hs h => by
        rw [pList_cut hn hs (fun y hy n t h => pDone_enc hm y (f5.2 y hy) (h5 y hy) n t h) (fun y hy n s hn hs h => pDone_cut hm y (f5.2 y hy) (h5 y hy) n s hn hs h) f5.1 hm h]
        rfl)))))
theorem whole_cut {α : Type} {key : Int} {b : List Int} {p : Nat → Res α} {c : Nat} (hx : xs = (key :: b).take c) (hc : c < (key :: b).length) (hl : (key :: b).length ≤ most)
    (hp : ∀ s, 1 ≤ xs.length → s ≠ [] → xs.drop 1 ++ s = b → p 1 = .fail 3 (xs.length : Int)) : whole key most xs p = .fail 3 (c : Int) := by
  have hlen : xs.length = c := by rw [hx, List.length_take]; omega
  unfold whole
  rw [if_neg (by omega)]
  cases c with
  | zero => rw [if_pos hlen]; rfl
  | succ c =>
    rw [if_neg (by omega)]
    rw [List.take_succ_cons] at hx
    have h1 : xs.headD 0 = key := by rw [hx]; rfl
    rw [if_neg (by rw [h1]; simp), hp (b.drop c) (by omega) (by intro h; have := congrArg List.length h; rw [List.length_drop, List.length_nil] at this; rw [List.length_cons] at hc; omega) (by rw [hx, List.drop_succ_cons, List.drop_zero, List.take_append_drop]), hlen]
    rfl
theorem whole_tail {α : Type} {key : Int} {b t : List Int} {p : Nat → Res α} {x : α} (hx : xs = (key :: b) ++ t) (hp : p 1 = .ok x (1 + b.length)) :
    whole key most xs p = if most < xs.length then .fail 1 0 else if t = [] then .ok x (1 + b.length) else .fail 4 ((key :: b).length : Int) := by
  have hlen : xs.length = 1 + b.length + t.length := by rw [hx, List.length_append, List.length_cons]; omega
  unfold whole
  split
  · rfl
  · rw [if_neg (by omega), if_neg (by rw [hx]; simp), hp]
    simp only [Res.bind]
    by_cases ht : t = []
    · rw [if_pos ht, if_neg (by subst ht; rw [List.length_nil] at hlen; omega)]
    · have : 0 < t.length := List.length_pos_iff.2 ht
      rw [if_neg ht, if_pos (by omega), List.length_cons, Nat.add_comm]
end Go.Proofs.Ytafmoglaockepaa.Cd
end
section
namespace Go.Proofs.Ytafmoglaockepaa.Cd
open Go Go.RowKit Go.Proofs.Ytafmoglaockepaa.Num Go.Proofs.Ytafmoglaockepaa.PG Go.Proofs.YtafmoglaockepaaW.PrintWords Go.Proofs.YtafmoglaockepaaW.PrintLast Go.Proofs.YtafmoglaockepaaW.PrintMore
set_option linter.unusedVariables false
set_option linter.unusedSimpArgs false
theorem isBytes_enc : ∀ f n, IsBytes (enc f n)
  | 0, n => by rw [enc]; intro x hx; simp at hx
  | f + 1, n => by
    rw [enc]
    intro x hx
    split at hx
    · simp at hx
      omega
    · rcases List.mem_cons.1 hx with rfl | hx
      · omega
      · exact isBytes_enc f _ x hx
theorem isBytes_app {a b : List Int} (ha : IsBytes a) (hb : IsBytes b) : IsBytes (a ++ b) := fun x hx => by
  rcases List.mem_append.1 hx with h | h
  · exact ha x h
  · exact hb x h
theorem isBytes_of_str (s : ByteArray) : IsBytes (bytesOf s) := by
  intro x hx
  unfold bytesOf at hx
  obtain ⟨u, _, rfl⟩ := List.mem_map.1 hx
  have := u.toNat_lt
  omega
theorem isBytes_T (s : ByteArray) : IsBytes (encT s) := isBytes_app (isBytes_enc _ _) (isBytes_of_str s)
theorem isBytes_I (a : Int) : IsBytes (encI a) := isBytes_enc _ _
theorem isBytes_U (a : Nat) : IsBytes (encU a) := isBytes_enc _ _
theorem isBytes_flat {α : Type} {e : α → List Int} (h : ∀ x, IsBytes (e x)) (l : List α) : IsBytes (l.flatMap e) := fun x hx => by
  obtain ⟨a, _, ha⟩ := List.mem_flatMap.1 hx
  exact h a x ha
theorem isBytes_N (x : S110) : IsBytes (encN x) := isBytes_app (isBytes_T _) (isBytes_I _)
theorem isBytes_L (x : S28) : IsBytes (encL x) := isBytes_app (isBytes_T _) (isBytes_app (isBytes_I _) (isBytes_I _))
theorem isBytes_Ns (l : List S110) : IsBytes (encU l.length ++ encNs l) := isBytes_app (isBytes_U _) (isBytes_flat isBytes_N l)
theorem isBytes_Ls (l : List S28) : IsBytes (encU l.length ++ encLs l) := isBytes_app (isBytes_U _) (isBytes_flat isBytes_L l)
theorem isBytes_Q (q : S40) : IsBytes (encQ q) := isBytes_app (isBytes_T _) (isBytes_app (isBytes_I _) (isBytes_app (isBytes_Ns _) (isBytes_app (isBytes_T _) (isBytes_app (isBytes_I _) (isBytes_I _)))))
theorem isBytes_C (x : RecD) : IsBytes (encC x) := isBytes_app (isBytes_I _) (isBytes_Q _)
theorem isBytes_H (x : S121) : IsBytes (encH x) := isBytes_app (isBytes_T _) (isBytes_app (isBytes_Ns _) (isBytes_I _))
theorem isBytes_D (x : S123) : IsBytes (encD x) := isBytes_app (isBytes_Q _) (isBytes_I _)
theorem isBytes_P (id : ByteArray) (er line : Int) (l : List S28) (now : Int) : IsBytes (encReply id er line l now) := isBytes_app (isBytes_T _) (isBytes_app (isBytes_I _) (isBytes_app (isBytes_I _) (isBytes_app (isBytes_Ls _) (isBytes_I _))))
theorem isBytes_S (x : StD) : IsBytes (encS x) := isBytes_app (isBytes_I _) (isBytes_app (isBytes_I _) (isBytes_app (isBytes_I _) (isBytes_app (isBytes_Ls _) (isBytes_app (isBytes_app (isBytes_U _) (isBytes_flat isBytes_H _)) (isBytes_app (isBytes_U _) (isBytes_flat isBytes_D _))))))
theorem isBytes_key {k : Int} (h : 0 ≤ k ∧ k < 256) {b : List Int} (hb : IsBytes b) : IsBytes (k :: b) := fun x hx => by
  rcases List.mem_cons.1 hx with rfl | hx
  · exact h
  · exact hb x hx
end Go.Proofs.Ytafmoglaockepaa.Cd
end
section
namespace Go.Proofs.Ytafmoglaockepaa.Cd
open Go Go.RowKit Go.Proofs.Ytafmoglaockepaa.Num Go.Proofs.Ytafmoglaockepaa.PG Go.Proofs.YtafmoglaockepaaW.PrintWords Go.Proofs.YtafmoglaockepaaW.PrintLast Go.Proofs.YtafmoglaockepaaW.PrintMore
set_option linter.unusedVariables false
set_option linter.unusedSimpArgs false
def wMost (m : Int) : Nat := if m = 3 then 131072 else 4096
def wB (m : Int) (q : S40) (p : RepD) (lsn : Int) (s : StD) : List Int :=
  if m = 0 then 81 :: encQ q else if m = 1 then 82 :: encReply p.id p.er p.line p.levs p.now else if m = 2 then 83 :: encC ⟨lsn, q⟩ else 84 :: encS s
def rdEnd (m : Int) (xs : List Int) : Int × Int :=
  if m = 0 then endOf (whole 81 4096 xs (pReq xs 4096)) else if m = 1 then endOf (whole 82 4096 xs (pReply xs 4096)) else if m = 2 then endOf (whole 83 4096 xs (pRec xs 4096)) else endOf (whole 84 131072 xs (pSt xs 131072))
theorem isBytes_wB {m : Int} {q : S40} {p : RepD} {lsn : Int} {s : StD} : IsBytes (wB m q p lsn s) := by
  unfold wB
  split
  · exact isBytes_key (by decide) (isBytes_Q q)
  · split
    · exact isBytes_key (by decide) (isBytes_P _ _ _ _ _)
    · split
      · exact isBytes_key (by decide) (isBytes_C _)
      · exact isBytes_key (by decide) (isBytes_S _)
theorem wB_pos {m : Int} {q : S40} {p : RepD} {lsn : Int} {s : StD} : 0 < (wB m q p lsn s).length := by
  unfold wB
  repeat' split
  all_goals simp
variable {m : Int} {q : S40} {p : RepD} {lsn : Int} {s : StD}
theorem read_cut (h4 : m = 0 ∨ m = 1 ∨ m = 2 ∨ m = 3) (oq : ReqOk q) (op : Int64 p.er ∧ Int64 p.line ∧ Int64 p.now ∧ LevOk p.levs) (ol : Int64 lsn) (os : Int64 s.f0 ∧ Int64 s.f1 ∧ Int64 s.f2 ∧ LevOk s.f3 ∧ HeldsOk s.f4 ∧ DonesOk s.f5)
    (hl : (wB m q p lsn s).length ≤ wMost m) (c : Nat) (hc : c < (wB m q p lsn s).length) : rdEnd m ((wB m q p lsn s).take c) = (3, (c : Int)) := by
  rcases h4 with rfl | rfl | rfl | rfl
  · show endOf (whole 81 4096 ((81 :: encQ q).take c) (pReq ((81 :: encQ q).take c) 4096)) = _
    have hl : (81 :: encQ q).length ≤ 4096 := hl
    rw [whole_cut (b := encQ q) rfl hc hl (fun s h1 hs h => pReq_cut (by decide) q (reqFit_of (by rw [List.length_cons] at hl; omega)) oq 1 s h1 hs h)]
    rfl
  · show endOf (whole 82 4096 ((82 :: encReply p.id p.er p.line p.levs p.now).take c) (pReply ((82 :: encReply p.id p.er p.line p.levs p.now).take c) 4096)) = _
    have hl : (82 :: encReply p.id p.er p.line p.levs p.now).length ≤ 4096 := hl
    have g := hl
    have h0 := encT_size p.id
    unfold encReply at g
    simp only [List.length_cons, List.length_append] at g
    rw [whole_cut (b := encReply p.id p.er p.line p.levs p.now) rfl hc hl (fun s h1 hs h => pReply_cut (by decide) p (by omega) (levFit_of (by rw [List.length_append]; omega)) op.1 op.2.1 op.2.2.1 op.2.2.2 1 s h1 hs h)]
    rfl
  · show endOf (whole 83 4096 ((83 :: encC ⟨lsn, q⟩).take c) (pRec ((83 :: encC ⟨lsn, q⟩).take c) 4096)) = _
    have hl : (83 :: encC ⟨lsn, q⟩).length ≤ 4096 := hl
    have g := hl
    unfold encC at g
    simp only [List.length_cons, List.length_append] at g
    rw [whole_cut (b := encC ⟨lsn, q⟩) rfl hc hl (fun s h1 hs h => pRec_cut (by decide) ⟨lsn, q⟩ (reqFit_of (by show (encQ q).length ≤ _; omega)) ol oq 1 s h1 hs h)]
    rfl
  · show endOf (whole 84 131072 ((84 :: encS s).take c) (pSt ((84 :: encS s).take c) 131072)) = _
    have hl : (84 :: encS s).length ≤ 131072 := hl
    rw [whole_cut (b := encS s) rfl hc hl (fun t h1 hs h => pSt_cut (by decide) s (stFit_of (by rw [List.length_cons] at hl; omega)) os.1 os.2.1 os.2.2.1 os.2.2.2.1 os.2.2.2.2.1 os.2.2.2.2.2 1 t h1 hs h)]
    rfl
theorem endOf_tail {α : Type} {most : Nat} {xs t : List Int} {x : α} {n k : Int} {j : Nat} : endOf (if most < xs.length then Res.fail 1 0 else if t = [] then Res.ok x j else Res.fail 4 k) = if most < xs.length then (1, 0) else if t = [] then (0, 0) else (4, k) := by
  repeat' split
  all_goals rfl
theorem read_tail (h4 : m = 0 ∨ m = 1 ∨ m = 2 ∨ m = 3) (oq : ReqOk q) (op : Int64 p.er ∧ Int64 p.line ∧ Int64 p.now ∧ LevOk p.levs) (ol : Int64 lsn) (os : Int64 s.f0 ∧ Int64 s.f1 ∧ Int64 s.f2 ∧ LevOk s.f3 ∧ HeldsOk s.f4 ∧ DonesOk s.f5)
    (hl : (wB m q p lsn s).length ≤ wMost m) (t : List Int) : rdEnd m (wB m q p lsn s ++ t) = if wMost m < (wB m q p lsn s ++ t).length then (1, 0) else if t = [] then (0, 0) else (4, ((wB m q p lsn s).length : Int)) := by
  rcases h4 with rfl | rfl | rfl | rfl
  · show endOf (whole 81 4096 (81 :: encQ q ++ t) (pReq (81 :: encQ q ++ t) 4096)) = _
    have hl : (81 :: encQ q).length ≤ 4096 := hl
    rw [whole_tail (b := encQ q) rfl (pReq_enc (by decide) q (reqFit_of (by rw [List.length_cons] at hl; omega)) oq 1 t rfl)]
    exact endOf_tail (n := 0)
  · show endOf (whole 82 4096 (82 :: encReply p.id p.er p.line p.levs p.now ++ t) (pReply (82 :: encReply p.id p.er p.line p.levs p.now ++ t) 4096)) = _
    have hl : (82 :: encReply p.id p.er p.line p.levs p.now).length ≤ 4096 := hl
    have g := hl
    have h0 := encT_size p.id
    unfold encReply at g
    simp only [List.length_cons, List.length_append] at g
    rw [whole_tail (b := encReply p.id p.er p.line p.levs p.now) rfl (pReply_enc (by decide) p (by omega) (levFit_of (by rw [List.length_append]; omega)) op.1 op.2.1 op.2.2.1 op.2.2.2 1 t rfl)]
    exact endOf_tail (n := 0)
  · show endOf (whole 83 4096 (83 :: encC ⟨lsn, q⟩ ++ t) (pRec (83 :: encC ⟨lsn, q⟩ ++ t) 4096)) = _
    have hl : (83 :: encC ⟨lsn, q⟩).length ≤ 4096 := hl
    have g := hl
    unfold encC at g
    simp only [List.length_cons, List.length_append] at g
    rw [whole_tail (b := encC ⟨lsn, q⟩) rfl (pRec_enc (by decide) ⟨lsn, q⟩ (reqFit_of (by show (encQ q).length ≤ _; omega)) ol oq 1 t rfl)]
    exact endOf_tail (n := 0)
  · show endOf (whole 84 131072 (84 :: encS s ++ t) (pSt (84 :: encS s ++ t) 131072)) = _
    have hl : (84 :: encS s).length ≤ 131072 := hl
    rw [whole_tail (b := encS s) rfl (pSt_enc (by decide) s (stFit_of (by rw [List.length_cons] at hl; omega)) os.1 os.2.1 os.2.2.1 os.2.2.2.1 os.2.2.2.2.1 os.2.2.2.2.2 1 t rfl)]
    exact endOf_tail (n := 0)
theorem and3 (x : Int) : Go.bits .and .i64 x 3 = 0 ∨ Go.bits .and .i64 x 3 = 1 ∨ Go.bits .and .i64 x 3 = 2 ∨ Go.bits .and .i64 x 3 = 3 := by
  have h1 : (BitVec.ofInt 64 x &&& BitVec.ofInt 64 3).toNat < 4 := by
    rw [BitVec.toNat_and, show (BitVec.ofInt 64 3).toNat = 3 from rfl]
    exact Nat.lt_of_le_of_lt Nat.and_le_right (by decide)
  have h2 : Go.bits .and .i64 x 3 = (((BitVec.ofInt 64 x &&& BitVec.ofInt 64 3).toNat : Nat) : Int) := by
    show IntKind.i64.wrap (((BitVec.ofInt 64 x &&& BitVec.ofInt 64 3).toNat : Nat) : Int) = _
    rw [IntWalk.i64_in _ (by omega)]
  rw [h2]
  omega
end Go.Proofs.Ytafmoglaockepaa.Cd
end
section
namespace Go.Proofs.Ytafmoglaockepaa.Cd
open Go Go.RowKit Go.Proofs.Ytafmoglaockepaa.Num Go.Proofs.Ytafmoglaockepaa.PG Go.Proofs.YtafmoglaockepaaW.PrintWords Go.Proofs.YtafmoglaockepaaW.PrintLast Go.Proofs.YtafmoglaockepaaW.PrintMore
set_option linter.unusedVariables false
set_option linter.unusedSimpArgs false
set_option maxHeartbeats 4000000
set_option maxRecDepth 100000
structure QAt (g B : Nat) (A : Option Addr) (n c : Nat) (xs : List Int) (most m : Nat) (e p : Int) (W : World) : Prop where
  row : Rt 137 g [Value.slice A n c, .int .i64 (m : Int), .int .i64 (most : Int), .int .i64 e, .int .i64 p] W
  foot : ∀ W', Below B W W' → Kd.C (Kd.int .u8) W' A n xs
  b : B ≤ g
  nc : n ≤ c
  le : e = 0 → m ≤ n
  big : n < 1000000000
  mb : most < 1000000000
  by_ : IsBytes xs
def QSt {α : Type} (g B : Nat) (A : Option Addr) (n c : Nat) (xs : List Int) (most : Nat) (r : Res α) (W : World) : Prop :=
  match r with
  | .ok _ m => QAt g B A n c xs most m 0 0 W
  | .fail e p => e ≠ 0 ∧ ∃ m, QAt g B A n c xs most m e p W
variable {g B : Nat} {A : Option Addr} {n c : Nat} {xs : List Int} {most : Nat}
theorem QAt.len {m : Nat} {e p : Int} {W : World} (k : QAt g B A n c xs most m e p W) : xs.length = n := Kd.C_len (k.foot W (Below.refl _ _))
theorem QAt.size {m : Nat} {e p : Int} {W : World} (k : QAt g B A n c xs most m e p W) : B ≤ W.heap.size := Nat.le_of_lt (Nat.lt_of_le_of_lt k.b k.row.lt)
theorem QAt.aside {m : Nat} {e p : Int} {W W' : World} (k : QAt g B A n c xs most m e p W) (hb : Below B W W') (hg : W'.heap[g]? = W.heap[g]?) : QAt g B A n c xs most m e p W' :=
  { k with row := hg.trans k.row, foot := fun W2 hb2 => k.foot W2 (hb.trans hb2) }
theorem QAt.below {m : Nat} {e p : Int} {W W' : World} (k : QAt g B A n c xs most m e p W) (hb : Below W.heap.size W W') : QAt g B A n c xs most m e p W' := k.aside (hb.mono k.size) (hb.block g k.row.lt)
theorem QAt.put {m : Nat} {e p : Int} {W : World} (k : QAt g B A n c xs most m e p W) (m' : Nat) (e' p' : Int) (h : e' = 0 → m' ≤ n) :
    QAt g B A n c xs most m' e' p' (W.setRow g [Value.slice A n c, .int .i64 (m' : Int), .int .i64 (most : Int), .int .i64 e', .int .i64 p'].toArray) ∧ Below B W (W.setRow g [Value.slice A n c, .int .i64 (m' : Int), .int .i64 (most : Int), .int .i64 e', .int .i64 p'].toArray) ∧ Kept W (W.setRow g [Value.slice A n c, .int .i64 (m' : Int), .int .i64 (most : Int), .int .i64 e', .int .i64 p'].toArray) (fun j => j = g) := by
  have hb : Below B W (W.setRow g [Value.slice A n c, .int .i64 (m' : Int), .int .i64 (most : Int), .int .i64 e', .int .i64 p'].toArray) := below_setRow' (Below.refl _ _) k.b _
  refine ⟨{ k with row := k.row.row _, foot := fun W2 hb2 => k.foot W2 (hb.trans hb2), le := h }, hb, ?_⟩
  exact ⟨by rw [setRow_size]; exact Nat.le_refl _, fun j hj hn => setRow_other _ _ _ _ hn⟩
theorem QAt.rest {m : Nat} {W : World} {p : Int} (k : QAt g B A n c xs most m 0 p W) {W' : World} (hb : Below B W W') : Kd.C (Kd.int .u8) W' (if c = m then A else A.map (·.add m)) (xs.drop m).length (xs.drop m) := by
  have hl := k.len
  have hC := k.foot W' hb
  rw [← hl] at hC
  have h1 := k.le rfl
  have h2 := k.nc
  have := Kd.C_drop (m := m) (c := c) hC (by omega) (by omega)
  rwa [show m * (Kd.int .u8).sz = m from Nat.mul_one m] at this
theorem QAt.dl {m : Nat} {e p : Int} {W : World} (k : QAt g B A n c xs most m e p W) : (xs.drop m).length = n - m := by rw [List.length_drop, k.len]
theorem QSt.aside {α : Type} {r : Res α} {W W' : World} (k : QSt g B A n c xs most r W) (hb : Below B W W') (hg : W'.heap[g]? = W.heap[g]?) : QSt g B A n c xs most r W' := by
  cases r with
  | ok x m => exact QAt.aside k hb hg
  | fail e p => exact ⟨k.1, k.2.choose, k.2.choose_spec.aside hb hg⟩
theorem QSt.lt {α : Type} {r : Res α} {W : World} (k : QSt g B A n c xs most r W) : g < W.heap.size := by
  cases r with
  | ok x m => exact (QAt.row k).lt
  | fail e p => exact k.2.choose_spec.row.lt
theorem QSt.b {α : Type} {r : Res α} {W : World} (k : QSt g B A n c xs most r W) : B ≤ g := by
  cases r with
  | ok x m => exact (QAt.b k)
  | fail e p => exact k.2.choose_spec.b
theorem QSt.size {α : Type} {r : Res α} {W : World} (k : QSt g B A n c xs most r W) : B ≤ W.heap.size := Nat.le_of_lt (Nat.lt_of_le_of_lt k.b k.lt)
theorem QSt.below {α : Type} {r : Res α} {W W' : World} (k : QSt g B A n c xs most r W) (hb : Below W.heap.size W W') : QSt g B A n c xs most r W' := k.aside (hb.mono k.size) (hb.block g k.lt)
end Go.Proofs.Ytafmoglaockepaa.Cd
end
section
namespace Go.Proofs.Ytafmoglaockepaa.Cd
open Go Go.RowKit Go.Proofs.Ytafmoglaockepaa.Num Go.Proofs.Ytafmoglaockepaa.PG Go.Proofs.YtafmoglaockepaaW.PrintWords Go.Proofs.YtafmoglaockepaaW.PrintLast Go.Proofs.YtafmoglaockepaaW.PrintMore
set_option linter.unusedVariables false
set_option linter.unusedSimpArgs false
set_option maxHeartbeats 4000000
set_option maxRecDepth 100000
variable {g B : Nat} {A : Option Addr} {n c : Nat} {xs : List Int} {most : Nat}
def Res.shape {α : Type} : Res α → Res Unit
  | .ok _ m => .ok () m
  | .fail e p => .fail e p
end Go.Proofs.Ytafmoglaockepaa.Cd
end
section
namespace Go.Proofs.Ytafmoglaockepaa.Cd
open Go Go.RowKit Go.Proofs.Ytafmoglaockepaa.Num Go.Proofs.Ytafmoglaockepaa.PG Go.Proofs.YtafmoglaockepaaW.PrintWords Go.Proofs.YtafmoglaockepaaW.PrintLast Go.Proofs.YtafmoglaockepaaW.PrintMore
set_option linter.unusedVariables false
set_option linter.unusedSimpArgs false
set_option maxHeartbeats 4000000
set_option maxRecDepth 100000
theorem read_request (A : Option Addr) (n c : Nat) (xs : List Int) (W : World) (hC : Kd.C (Kd.int .u8) W A n xs) (hnc : n ≤ c) (hb : IsBytes xs) (hbig : n < 1000000000) :
    Calls Try.prog 74 #[.slice A n c, .int .u8 81, .int .i64 4096, .func (.func 75) #[] #[]] W fun e w' => Below W.heap.size W w' ∧ ∃ v, e = .returned (.tuple #[v, .int .i64 (endOf (whole 81 4096 xs (pReq xs 4096))).1, .int .i64 (endOf (whole 81 4096 xs (pReq xs 4096))).2]) ∧ RdOut memReq zero_req W.heap.size (whole 81 4096 xs (pReq xs 4096)) v w' := by
  have HC := Aside0.mk hC
  have HNC := Aside0.mk hnc
  have HBY := Aside0.mk hb
  have HBIG := Aside0.mk hbig
  have HLEN := Aside0.mk (show xs.length = n from Kd.C_len hC)
  have hmf : ∀ (fn : Fn) (first cap : Array Value) (w : World), (Instr.makeFunc fn first cap).run Try.prog w = .ok (.func fn first cap) w := fun _ _ _ _ => rfl
  clear hC hnc hb hbig
  obtain ⟨bo, hbo⟩ : ∃ bo, W.heap.size = bo := ⟨_, rfl⟩
  have HBO := Aside0.mk hbo
  clear hbo
  go_enter_defers Try.func74, Try.ntmps74
  go_upto_region 3 with fail
  have hb1 : Below W.heap.size W (W.alloc (.cells #[.string ⟨#[]⟩, .int .i64 0, .slice none 0 0, .string ⟨#[]⟩, .int .i64 0, .int .i64 0] 40)) := below_alloc (Below.refl _ _) _
  have o1 : Rt 40 W.heap.size zero_req (W.alloc (.cells #[.string ⟨#[]⟩, .int .i64 0, .slice none 0 0, .string ⟨#[]⟩, .int .i64 0, .int .i64 0] 40)) := heap_alloc_new W _
  have s1 : (W.alloc (.cells #[.string ⟨#[]⟩, .int .i64 0, .slice none 0 0, .string ⟨#[]⟩, .int .i64 0, .int .i64 0] 40)).heap.size = W.heap.size + 1 := by simp
  generalize W.alloc (.cells #[.string ⟨#[]⟩, .int .i64 0, .slice none 0 0, .string ⟨#[]⟩, .int .i64 0, .int .i64 0] 40) = wa at *
  have hb2 : Below wa.heap.size wa (wa.alloc (.cells #[.int .i64 0] 22)) := below_alloc (Below.refl _ _) _
  have e2 : Rt 22 wa.heap.size [.int .i64 0] (wa.alloc (.cells #[.int .i64 0] 22)) := heap_alloc_new wa _
  have o2 := o1.below hb2
  have s2 : (wa.alloc (.cells #[.int .i64 0] 22)).heap.size = wa.heap.size + 1 := by simp
  have hc2 := hb1.trans (hb2.mono hb1.size)
  generalize wa.alloc (.cells #[.int .i64 0] 22) = wb at *
  have hb3 : Below wb.heap.size wb (wb.alloc (.cells #[.int .i64 0] 3)) := below_alloc (Below.refl _ _) _
  have a3 : Rt 3 wb.heap.size [.int .i64 0] (wb.alloc (.cells #[.int .i64 0] 3)) := heap_alloc_new wb _
  have o3 := o2.below hb3
  have e3 := e2.below hb3
  have s3 : (wb.alloc (.cells #[.int .i64 0] 3)).heap.size = wb.heap.size + 1 := by simp
  have hc3 := hc2.trans (hb3.mono hc2.size)
  generalize wb.alloc (.cells #[.int .i64 0] 3) = wc at *
  have hb4 : Below wc.heap.size wc (wc.alloc (.cells #[.slice A n c, .int .i64 0, .int .i64 4096] 158)) := below_alloc (Below.refl _ _) _
  have g4 : Rt 158 wc.heap.size [.slice A n c, .int .i64 0, .int .i64 4096] (wc.alloc (.cells #[.slice A n c, .int .i64 0, .int .i64 4096] 158)) := heap_alloc_new wc _
  have o4 := o3.below hb4
  have e4 := e3.below hb4
  have a4 := a3.below hb4
  have hc4 := hc3.trans (hb4.mono hc3.size)
  have s4 : (wc.alloc (.cells #[.slice A n c, .int .i64 0, .int .i64 4096] 158)).heap.size = wc.heap.size + 1 := by simp
  generalize wc.alloc (.cells #[.slice A n c, .int .i64 0, .int .i64 4096] 158) = w4 at *
  rw [s3, s2, s1] at g4 s4
  rw [s2, s1] at a4
  rw [s1] at e4
  obtain ⟨be, hbe⟩ : ∃ be, W.heap.size + 1 = be := ⟨_, rfl⟩
  rw [hbe] at e4 a4 g4 s4 ⊢
  obtain ⟨ba, hba⟩ : ∃ ba, be + 1 = ba := ⟨_, rfl⟩
  rw [hba] at a4 g4 s4 ⊢
  obtain ⟨g, hg⟩ : ∃ g, ba + 1 = g := ⟨_, rfl⟩
  rw [hg] at g4 s4 ⊢
  rw [HBO.out] at o4 hbe ⊢
  have O4 := Aside0.mk o4
  have E4 := Aside0.mk e4
  have A4 := Aside0.mk a4
  have G4 := Aside0.mk g4
  have B4 := Aside0.mk (show Below bo W w4 by rw [← HBO.out]; exact hc4)
  have HORD := Aside0.mk (show be = bo + 1 ∧ ba = bo + 2 ∧ g = bo + 3 ∧ w4.heap.size = bo + 4 by omega)
  clear hb1 o1 s1 hb2 e2 o2 s2 hc2 hb3 a3 o3 e3 s3 hc3 hb4 o4 e4 a4 hc4 s4 hbe hba hg g4 hmf
  have HFAULT := Aside0.mk (show ∀ (er p : Int) (w : World), Rt 40 bo zero_req w → Rt 22 be [.int .i64 0] w → Rt 3 ba [.int .i64 0] w → Below bo W w → CallsD Try.prog 123 #[ptr bo, ptr be, ptr ba] (.panicking [{ v := fault er p, recovered := false }]) w fun e u' w' =>
      e = .returned (.tuple #[]) ∧ u' = .panicking [{ v := fault er p, recovered := true }] ∧ Rt 40 bo zero_req w' ∧ Rt 22 be [.int .i64 er] w' ∧ Rt 3 ba [.int .i64 p] w' ∧ Below bo W w' from fun er p w ho he ha hb => by
    have := HORD.out
    refine (catch_req er p [] w ho he ha (by omega) (by omega) (by omega)).mono ?_
    rintro e u' w' ⟨h1, h2, h3, h4, h5, _, h6⟩
    exact ⟨h1, h2, h3, h4, h5, hb.trans (h6 bo (by omega) (by omega) (by have := hb.size; have := HBO.out; omega))⟩)
  by_cases hl : 4096 < n
  · have d1 : decide ((4096 : Int) < (n : Int)) = true := decide_eq_true (by omega)
    have d2 : decide (4096 < n) = true := decide_eq_true hl
    have HR := Aside0.mk (show whole 81 4096 xs (pReq xs 4096) = Res.fail 1 0 by
      unfold whole
      rw [HLEN.out, if_pos hl])
    clear hl
    go_wp2_with fail
    refine leaves_cons (f := 123) (args := #[ptr bo, ptr be, ptr ba]) (by simp) (by simp [go_sem]) ?_
    refine (HFAULT.out 1 0 w4 O4.out E4.out A4.out B4.out).mono ?_
    rintro e u' w' ⟨rfl, rfl, ho, he, ha, hb⟩
    have x0 := ho.cell 0 _ rfl
    have x1 := ho.cell 1 _ rfl
    have x2 := ho.cell 2 _ rfl
    have x3 := ho.cell 3 _ rfl
    have x4 := ho.cell 4 _ rfl
    have x5 := ho.cell 5 _ rfl
    have y0 := he.cell 0 _ rfl
    have z0 := ha.cell 0 _ rfl
    rw [HR.out]
    simp [Leaves, settle, results, Try.results74, go_sem, x0, x1, x2, x3, x4, x5, x5, y0, z0]
    exact ⟨by rw [HBO.out]; exact hb, _, ⟨rfl, rfl, rfl⟩, rfl⟩
  have d1 : decide ((4096 : Int) < (n : Int)) = false := decide_eq_false (by omega)
  have d2 : decide (4096 < n) = false := decide_eq_false hl
  have HL := Aside0.mk hl
  clear hl
  rcases Nat.eq_zero_or_pos n with hz | hz
  · have HR := Aside0.mk (show whole 81 4096 xs (pReq xs 4096) = Res.fail 3 0 by
      unfold whole
      rw [HLEN.out, if_neg HL.out, if_pos hz])
    have d3 : ((n : Int) == 0) = true := by simpa using hz
    have d4 : decide (n = 0) = true := decide_eq_true hz
    have d5 : (n : Int) = 0 := by omega
    go_wp2_with fail
    refine leaves_cons (f := 123) (args := #[ptr bo, ptr be, ptr ba]) (by simp) (by simp [go_sem]) ?_
    refine (HFAULT.out 3 0 w4 O4.out E4.out A4.out B4.out).mono ?_
    rintro e u' w' ⟨rfl, rfl, ho, he, ha, hb⟩
    have x0 := ho.cell 0 _ rfl
    have x1 := ho.cell 1 _ rfl
    have x2 := ho.cell 2 _ rfl
    have x3 := ho.cell 3 _ rfl
    have x4 := ho.cell 4 _ rfl
    have x5 := ho.cell 5 _ rfl
    have y0 := he.cell 0 _ rfl
    have z0 := ha.cell 0 _ rfl
    rw [HR.out]
    simp [Leaves, settle, results, Try.results74, go_sem, x0, x1, x2, x3, x4, x5, x5, y0, z0]
    exact ⟨by rw [HBO.out]; exact hb, _, ⟨rfl, rfl, rfl⟩, rfl⟩
  have d3 : ((n : Int) == 0) = false := by simp; omega
  have d4 : decide (n = 0) = false := decide_eq_false (by omega)
  have HZ := Aside0.mk hz
  have i0 : (0 : Int) < (n : Int) := by omega
  have hCx := Kd.C_below HC.out (show Below W.heap.size W w4 by rw [HBO.out]; exact B4.out)
  obtain ⟨ad, rfl, hcell⟩ := (Kd.reads_of_C (d := (0 : Int)) (h1 := fun _ => rfl) hCx).2.2 hz
  have k0 := hcell 0 hz
  obtain ⟨x, hx⟩ : ∃ x, xs.getD 0 0 = x := ⟨_, rfl⟩
  rw [hx] at k0
  have HX := Aside0.mk (show xs.headD 0 = x by rw [← hx]; cases xs <;> rfl)
  have k1 : w4.cell? ad = some (.int .u8 x) := by
    have e : ad.add 0 = ad := by simp [Addr.add]
    rwa [e] at k0
  clear hz hCx hcell hx
  by_cases hk : x = 81
  rotate_left
  · have HR := Aside0.mk (show whole 81 4096 xs (pReq xs 4096) = Res.fail 90 0 by
      unfold whole
      rw [HLEN.out, if_neg HL.out, if_neg (by have := HZ.out; omega), HX.out, if_pos hk])
    have d5 : (x != 81) = true := by simpa using hk
    have d6 : (x == 81) = false := by simpa using hk
    have d7 : decide (x = 81) = false := decide_eq_false hk
    clear hk
    go_wp2_with fail
    refine leaves_cons (f := 123) (args := #[ptr bo, ptr be, ptr ba]) (by simp) (by simp [go_sem]) ?_
    refine (HFAULT.out 90 0 w4 O4.out E4.out A4.out B4.out).mono ?_
    rintro e u' w' ⟨rfl, rfl, ho, he, ha, hb⟩
    have x0 := ho.cell 0 _ rfl
    have x1 := ho.cell 1 _ rfl
    have x2 := ho.cell 2 _ rfl
    have x3 := ho.cell 3 _ rfl
    have x4 := ho.cell 4 _ rfl
    have x5 := ho.cell 5 _ rfl
    have y0 := he.cell 0 _ rfl
    have z0 := ha.cell 0 _ rfl
    rw [HR.out]
    simp [Leaves, settle, results, Try.results74, go_sem, x0, x1, x2, x3, x4, x5, x5, y0, z0]
    exact ⟨by rw [HBO.out]; exact hb, _, ⟨rfl, rfl, rfl⟩, rfl⟩
  subst hk
  have hg1 := G4.out.cell 1 _ rfl
  have fg1 := G4.out.free 1
  go_upto_region 10 with fail
  rw [G4.out.set 1 (.int .i64 1)]
  have hl1 : [Value.slice (some ad) n c, .int .i64 0, .int .i64 4096].set 1 (.int .i64 1) = [Value.slice (some ad) n c, .int .i64 1, .int .i64 4096] := rfl
  rw [hl1]
  have K4 : CrAt g bo (some ad) n c xs 0 4096 w4 := ⟨G4.out, fun W' hb => Kd.C_below HC.out (by rw [HBO.out]; exact B4.out.trans hb), by have := HORD.out; omega, HNC.out, Nat.zero_le _, HBIG.out, by decide, HBY.out⟩
  have hmv := K4.moved (m' := 1) HZ.out
  have e1 : (((1 : Nat) : Int)) = 1 := rfl
  have e2 : (((4096 : Nat) : Int)) = 4096 := rfl
  rw [e1, e2] at hmv
  have K5 := Aside0.mk hmv.1
  have B5 := Aside0.mk (B4.out.trans hmv.2.1)
  have O5 := Aside0.mk (show Rt 40 bo zero_req (w4.setRow g [Value.slice (some ad) n c, .int .i64 1, .int .i64 4096].toArray) from (setRow_other _ _ _ _ (by have := HORD.out; omega)).trans O4.out)
  have E5 := Aside0.mk (show Rt 22 be [.int .i64 0] (w4.setRow g [Value.slice (some ad) n c, .int .i64 1, .int .i64 4096].toArray) from (setRow_other _ _ _ _ (by have := HORD.out; omega)).trans E4.out)
  have A5 := Aside0.mk (show Rt 3 ba [.int .i64 0] (w4.setRow g [Value.slice (some ad) n c, .int .i64 1, .int .i64 4096].toArray) from (setRow_other _ _ _ _ (by have := HORD.out; omega)).trans A4.out)
  have S5 := Aside0.mk (show bo + 4 ≤ (w4.setRow g [Value.slice (some ad) n c, .int .i64 1, .int .i64 4096].toArray).heap.size by rw [setRow_size]; have := HORD.out; omega)
  clear hmv K4 hl1 e1 e2 hg1 fg1 k0 k1 d1 d2 d3 d4 i0
  generalize w4.setRow g [Value.slice (some ad) n c, .int .i64 1, .int .i64 4096].toArray = w5 at *
  have HW := Aside0.mk (show whole 81 4096 xs (pReq xs 4096) = (pReq xs 4096 1).bind fun x n => if n < xs.length then .fail 4 (n : Int) else .ok x n by
    unfold whole
    rw [HLEN.out, if_neg HL.out, if_neg (by have := HZ.out; omega), HX.out, if_neg (by decide)])
  go_wp2_with fail
  go_at_call 75
  refine (r_request K5.out).mono ?_
  rintro e w6 ⟨hb, hp, ho⟩
  have O6 := Aside0.mk (show Rt 40 bo zero_req w6 from (hp.2 bo O5.out.lt (by have := HORD.out; show bo ≠ g; omega)).trans O5.out)
  have E6 := Aside0.mk (show Rt 22 be [.int .i64 0] w6 from (hp.2 be E5.out.lt (by have := HORD.out; show be ≠ g; omega)).trans E5.out)
  have A6 := Aside0.mk (show Rt 3 ba [.int .i64 0] w6 from (hp.2 ba A5.out.lt (by have := HORD.out; show ba ≠ g; omega)).trans A5.out)
  have B6 := Aside0.mk (B5.out.trans hb)
  rcases hq : pReq xs 4096 1 with ⟨x, m2⟩ | ⟨er, p⟩
  rotate_left
  · rw [hq] at ho
    have ho : e = gaveUp er p := ho
    subst ho
    have HR := Aside0.mk (show whole 81 4096 xs (pReq xs 4096) = Res.fail er p by rw [HW.out, hq]; rfl)
    clear hb hp hq
    simp only [gaveUp]
    refine leaves_cons (f := 123) (args := #[ptr bo, ptr be, ptr ba]) (by simp) (by simp [go_sem]) ?_
    refine (HFAULT.out er p w6 O6.out E6.out A6.out B6.out).mono ?_
    rintro e u' w' ⟨rfl, rfl, ho, he, ha, hb⟩
    have x0 := ho.cell 0 _ rfl
    have x1 := ho.cell 1 _ rfl
    have x2 := ho.cell 2 _ rfl
    have x3 := ho.cell 3 _ rfl
    have x4 := ho.cell 4 _ rfl
    have x5 := ho.cell 5 _ rfl
    have y0 := he.cell 0 _ rfl
    have z0 := ha.cell 0 _ rfl
    rw [HR.out]
    simp [Leaves, settle, results, Try.results74, go_sem, x0, x1, x2, x3, x4, x5, x5, y0, z0]
    exact ⟨by rw [HBO.out]; exact hb, _, ⟨rfl, rfl, rfl⟩, rfl⟩
  rw [hq] at ho
  obtain ⟨v, he, ⟨Al, nl, cl, hv, hl⟩, hk⟩ : ∃ v, e = .returned v ∧ memReq w5.heap.size x v w6 ∧ CrAt g bo (some ad) n c xs m2 4096 w6 := ho
  subst he hv
  have K6 := Aside0.mk hk
  have Ll_6 := Aside0.mk (LN_alive.lower hl S5.out)
  have HQ := Aside0.mk hq
  clear hb hp hq hl hk
  try clear ho
  go_upto_region 11 with fail
  have hb7 : Below w6.heap.size w6 (w6.alloc (.cells #[.string x.f0, .int .i64 x.f1, .slice Al nl cl, .string x.f3, .int .i64 x.f4, .int .i64 x.f5] 40)) := below_alloc (Below.refl _ _) _
  have r7 : Rt 40 w6.heap.size [.string x.f0, .int .i64 x.f1, .slice Al nl cl, .string x.f3, .int .i64 x.f4, .int .i64 x.f5] (w6.alloc (.cells #[.string x.f0, .int .i64 x.f1, .slice Al nl cl, .string x.f3, .int .i64 x.f4, .int .i64 x.f5] 40)) := heap_alloc_new w6 _
  obtain ⟨bx, hbx⟩ : ∃ bx, w6.heap.size = bx := ⟨_, rfl⟩
  have O7 := Aside0.mk (O6.out.below hb7)
  have E7 := Aside0.mk (E6.out.below hb7)
  have A7 := Aside0.mk (A6.out.below hb7)
  have K7 := Aside0.mk (K6.out.below hb7)
  have Ll_7 := Aside0.mk (LN_alive.below Ll_6.out hb7)
  have B7 := Aside0.mk (B6.out.trans (hb7.mono (by have := B6.out.size; have := HBO.out; omega)))
  have B7' := B7.out
  rw [hbx] at r7 ⊢
  have R7 := Aside0.mk r7
  clear hb7 r7 hbx B7'
  generalize w6.alloc (.cells #[.string x.f0, .int .i64 x.f1, .slice Al nl cl, .string x.f3, .int .i64 x.f4, .int .i64 x.f5] 40) = w7 at *
  have hm7 := K7.out.row.cell 1 _ rfl
  by_cases ht : m2 < n
  · have d1 : decide ((m2 : Int) < (n : Int)) = true := decide_eq_true (by omega)
    have d2 : decide (m2 < n) = true := decide_eq_true ht
    have HR := Aside0.mk (show whole 81 4096 xs (pReq xs 4096) = Res.fail 4 (m2 : Int) by
      rw [HW.out, HQ.out]
      show (if m2 < xs.length then Res.fail 4 (m2 : Int) else Res.ok x m2) = _
      rw [HLEN.out, if_pos ht])
    clear ht
    go_wp2_with fail
    refine leaves_cons (f := 123) (args := #[ptr bo, ptr be, ptr ba]) (by simp) (by simp [go_sem]) ?_
    refine (HFAULT.out 4 (m2 : Int) w7 O7.out E7.out A7.out B7.out).mono ?_
    rintro e u' w' ⟨rfl, rfl, ho, he, ha, hb⟩
    have x0 := ho.cell 0 _ rfl
    have x1 := ho.cell 1 _ rfl
    have x2 := ho.cell 2 _ rfl
    have x3 := ho.cell 3 _ rfl
    have x4 := ho.cell 4 _ rfl
    have x5 := ho.cell 5 _ rfl
    have y0 := he.cell 0 _ rfl
    have z0 := ha.cell 0 _ rfl
    rw [HR.out]
    simp [Leaves, settle, results, Try.results74, go_sem, x0, x1, x2, x3, x4, x5, x5, y0, z0]
    exact ⟨by rw [HBO.out]; exact hb, _, ⟨rfl, rfl, rfl⟩, rfl⟩
  have d1 : decide ((m2 : Int) < (n : Int)) = false := decide_eq_false (by omega)
  have d2 : decide (m2 < n) = false := decide_eq_false ht
  have HR := Aside0.mk (show whole 81 4096 xs (pReq xs 4096) = Res.ok x m2 by
    rw [HW.out, HQ.out]
    show (if m2 < xs.length then Res.fail 4 (m2 : Int) else Res.ok x m2) = _
    rw [HLEN.out, if_neg ht])
  clear ht
  have c0 := R7.out.cell 0 _ rfl
  have c1 := R7.out.cell 1 _ rfl
  have c2 := R7.out.cell 2 _ rfl
  have c3 := R7.out.cell 3 _ rfl
  have c4 := R7.out.cell 4 _ rfl
  have c5 := R7.out.cell 5 _ rfl
  have z0 := O7.out.cell 0 _ rfl
  have z1 := O7.out.cell 1 _ rfl
  have z2 := O7.out.cell 2 _ rfl
  have z3 := O7.out.cell 3 _ rfl
  have z4 := O7.out.cell 4 _ rfl
  have z5 := O7.out.cell 5 _ rfl
  have f0 := O7.out.free 0
  have f1 := O7.out.free 1
  have f2 := O7.out.free 2
  have f3 := O7.out.free 3
  have f4 := O7.out.free 4
  have f5 := O7.out.free 5
  have y0 := E7.out.cell 0 _ rfl
  have y1 := E7.out.free 0
  have a0 := A7.out.cell 0 _ rfl
  have a1 := A7.out.free 0
  have hne1 : be ≠ bo := by have := HORD.out; omega
  have hne2 : ba ≠ bo := by have := HORD.out; omega
  have hne3 : ba ≠ be := by have := HORD.out; omega
  go_wp2_with fail
  clear c0 c1 c2 c3 c4 c5 z0 z1 z2 z3 z4 z5 f0 f1 f2 f3 f4 f5 y0 y1 a0 a1 d1 d2 hm7
  have q := O7.out.set 0 (.string x.f0)
  rw [show ([Value.string ⟨#[]⟩, .int .i64 0, .slice none 0 0, .string ⟨#[]⟩, .int .i64 0, .int .i64 0]).set 0 (.string x.f0) = [Value.string x.f0, .int .i64 0, .slice none 0 0, .string ⟨#[]⟩, .int .i64 0, .int .i64 0] from rfl] at q
  rw [q]
  have O8 := Aside0.mk (show Rt 40 bo [Value.string x.f0, .int .i64 0, .slice none 0 0, .string ⟨#[]⟩, .int .i64 0, .int .i64 0] (w7.setRow bo ([Value.string x.f0, .int .i64 0, .slice none 0 0, .string ⟨#[]⟩, .int .i64 0, .int .i64 0]).toArray) from O7.out.row _)
  have E8 := Aside0.mk (show Rt 22 be [.int .i64 0] (w7.setRow bo ([Value.string x.f0, .int .i64 0, .slice none 0 0, .string ⟨#[]⟩, .int .i64 0, .int .i64 0]).toArray) from (setRow_other _ _ _ _ hne1).trans E7.out)
  have A8 := Aside0.mk (show Rt 3 ba [.int .i64 0] (w7.setRow bo ([Value.string x.f0, .int .i64 0, .slice none 0 0, .string ⟨#[]⟩, .int .i64 0, .int .i64 0]).toArray) from (setRow_other _ _ _ _ hne2).trans A7.out)
  have Ll_8 := Aside0.mk (LN_alive.row Ll_7.out (show bo < bo + 4 by omega) ([Value.string x.f0, .int .i64 0, .slice none 0 0, .string ⟨#[]⟩, .int .i64 0, .int .i64 0]).toArray)
  have B8 := Aside0.mk (show Below bo W (w7.setRow bo ([Value.string x.f0, .int .i64 0, .slice none 0 0, .string ⟨#[]⟩, .int .i64 0, .int .i64 0]).toArray) from below_setRow' B7.out (Nat.le_refl _) _)
  clear q
  generalize w7.setRow bo ([Value.string x.f0, .int .i64 0, .slice none 0 0, .string ⟨#[]⟩, .int .i64 0, .int .i64 0]).toArray = w8 at *
  have q := O8.out.set 1 (.int .i64 x.f1)
  rw [show ([Value.string x.f0, .int .i64 0, .slice none 0 0, .string ⟨#[]⟩, .int .i64 0, .int .i64 0]).set 1 (.int .i64 x.f1) = [Value.string x.f0, .int .i64 x.f1, .slice none 0 0, .string ⟨#[]⟩, .int .i64 0, .int .i64 0] from rfl] at q
  rw [q]
  have O9 := Aside0.mk (show Rt 40 bo [Value.string x.f0, .int .i64 x.f1, .slice none 0 0, .string ⟨#[]⟩, .int .i64 0, .int .i64 0] (w8.setRow bo ([Value.string x.f0, .int .i64 x.f1, .slice none 0 0, .string ⟨#[]⟩, .int .i64 0, .int .i64 0]).toArray) from O8.out.row _)
  have E9 := Aside0.mk (show Rt 22 be [.int .i64 0] (w8.setRow bo ([Value.string x.f0, .int .i64 x.f1, .slice none 0 0, .string ⟨#[]⟩, .int .i64 0, .int .i64 0]).toArray) from (setRow_other _ _ _ _ hne1).trans E8.out)
  have A9 := Aside0.mk (show Rt 3 ba [.int .i64 0] (w8.setRow bo ([Value.string x.f0, .int .i64 x.f1, .slice none 0 0, .string ⟨#[]⟩, .int .i64 0, .int .i64 0]).toArray) from (setRow_other _ _ _ _ hne2).trans A8.out)
  have Ll_9 := Aside0.mk (LN_alive.row Ll_8.out (show bo < bo + 4 by omega) ([Value.string x.f0, .int .i64 x.f1, .slice none 0 0, .string ⟨#[]⟩, .int .i64 0, .int .i64 0]).toArray)
  have B9 := Aside0.mk (show Below bo W (w8.setRow bo ([Value.string x.f0, .int .i64 x.f1, .slice none 0 0, .string ⟨#[]⟩, .int .i64 0, .int .i64 0]).toArray) from below_setRow' B8.out (Nat.le_refl _) _)
  clear q
  generalize w8.setRow bo ([Value.string x.f0, .int .i64 x.f1, .slice none 0 0, .string ⟨#[]⟩, .int .i64 0, .int .i64 0]).toArray = w9 at *
  have q := O9.out.set 2 (.slice Al nl cl)
  rw [show ([Value.string x.f0, .int .i64 x.f1, .slice none 0 0, .string ⟨#[]⟩, .int .i64 0, .int .i64 0]).set 2 (.slice Al nl cl) = [Value.string x.f0, .int .i64 x.f1, .slice Al nl cl, .string ⟨#[]⟩, .int .i64 0, .int .i64 0] from rfl] at q
  rw [q]
  have O10 := Aside0.mk (show Rt 40 bo [Value.string x.f0, .int .i64 x.f1, .slice Al nl cl, .string ⟨#[]⟩, .int .i64 0, .int .i64 0] (w9.setRow bo ([Value.string x.f0, .int .i64 x.f1, .slice Al nl cl, .string ⟨#[]⟩, .int .i64 0, .int .i64 0]).toArray) from O9.out.row _)
  have E10 := Aside0.mk (show Rt 22 be [.int .i64 0] (w9.setRow bo ([Value.string x.f0, .int .i64 x.f1, .slice Al nl cl, .string ⟨#[]⟩, .int .i64 0, .int .i64 0]).toArray) from (setRow_other _ _ _ _ hne1).trans E9.out)
  have A10 := Aside0.mk (show Rt 3 ba [.int .i64 0] (w9.setRow bo ([Value.string x.f0, .int .i64 x.f1, .slice Al nl cl, .string ⟨#[]⟩, .int .i64 0, .int .i64 0]).toArray) from (setRow_other _ _ _ _ hne2).trans A9.out)
  have Ll_10 := Aside0.mk (LN_alive.row Ll_9.out (show bo < bo + 4 by omega) ([Value.string x.f0, .int .i64 x.f1, .slice Al nl cl, .string ⟨#[]⟩, .int .i64 0, .int .i64 0]).toArray)
  have B10 := Aside0.mk (show Below bo W (w9.setRow bo ([Value.string x.f0, .int .i64 x.f1, .slice Al nl cl, .string ⟨#[]⟩, .int .i64 0, .int .i64 0]).toArray) from below_setRow' B9.out (Nat.le_refl _) _)
  clear q
  generalize w9.setRow bo ([Value.string x.f0, .int .i64 x.f1, .slice Al nl cl, .string ⟨#[]⟩, .int .i64 0, .int .i64 0]).toArray = w10 at *
  have q := O10.out.set 3 (.string x.f3)
  rw [show ([Value.string x.f0, .int .i64 x.f1, .slice Al nl cl, .string ⟨#[]⟩, .int .i64 0, .int .i64 0]).set 3 (.string x.f3) = [Value.string x.f0, .int .i64 x.f1, .slice Al nl cl, .string x.f3, .int .i64 0, .int .i64 0] from rfl] at q
  rw [q]
  have O11 := Aside0.mk (show Rt 40 bo [Value.string x.f0, .int .i64 x.f1, .slice Al nl cl, .string x.f3, .int .i64 0, .int .i64 0] (w10.setRow bo ([Value.string x.f0, .int .i64 x.f1, .slice Al nl cl, .string x.f3, .int .i64 0, .int .i64 0]).toArray) from O10.out.row _)
  have E11 := Aside0.mk (show Rt 22 be [.int .i64 0] (w10.setRow bo ([Value.string x.f0, .int .i64 x.f1, .slice Al nl cl, .string x.f3, .int .i64 0, .int .i64 0]).toArray) from (setRow_other _ _ _ _ hne1).trans E10.out)
  have A11 := Aside0.mk (show Rt 3 ba [.int .i64 0] (w10.setRow bo ([Value.string x.f0, .int .i64 x.f1, .slice Al nl cl, .string x.f3, .int .i64 0, .int .i64 0]).toArray) from (setRow_other _ _ _ _ hne2).trans A10.out)
  have Ll_11 := Aside0.mk (LN_alive.row Ll_10.out (show bo < bo + 4 by omega) ([Value.string x.f0, .int .i64 x.f1, .slice Al nl cl, .string x.f3, .int .i64 0, .int .i64 0]).toArray)
  have B11 := Aside0.mk (show Below bo W (w10.setRow bo ([Value.string x.f0, .int .i64 x.f1, .slice Al nl cl, .string x.f3, .int .i64 0, .int .i64 0]).toArray) from below_setRow' B10.out (Nat.le_refl _) _)
  clear q
  generalize w10.setRow bo ([Value.string x.f0, .int .i64 x.f1, .slice Al nl cl, .string x.f3, .int .i64 0, .int .i64 0]).toArray = w11 at *
  have q := O11.out.set 4 (.int .i64 x.f4)
  rw [show ([Value.string x.f0, .int .i64 x.f1, .slice Al nl cl, .string x.f3, .int .i64 0, .int .i64 0]).set 4 (.int .i64 x.f4) = [Value.string x.f0, .int .i64 x.f1, .slice Al nl cl, .string x.f3, .int .i64 x.f4, .int .i64 0] from rfl] at q
  rw [q]
  have O12 := Aside0.mk (show Rt 40 bo [Value.string x.f0, .int .i64 x.f1, .slice Al nl cl, .string x.f3, .int .i64 x.f4, .int .i64 0] (w11.setRow bo ([Value.string x.f0, .int .i64 x.f1, .slice Al nl cl, .string x.f3, .int .i64 x.f4, .int .i64 0]).toArray) from O11.out.row _)
  have E12 := Aside0.mk (show Rt 22 be [.int .i64 0] (w11.setRow bo ([Value.string x.f0, .int .i64 x.f1, .slice Al nl cl, .string x.f3, .int .i64 x.f4, .int .i64 0]).toArray) from (setRow_other _ _ _ _ hne1).trans E11.out)
  have A12 := Aside0.mk (show Rt 3 ba [.int .i64 0] (w11.setRow bo ([Value.string x.f0, .int .i64 x.f1, .slice Al nl cl, .string x.f3, .int .i64 x.f4, .int .i64 0]).toArray) from (setRow_other _ _ _ _ hne2).trans A11.out)
  have Ll_12 := Aside0.mk (LN_alive.row Ll_11.out (show bo < bo + 4 by omega) ([Value.string x.f0, .int .i64 x.f1, .slice Al nl cl, .string x.f3, .int .i64 x.f4, .int .i64 0]).toArray)
  have B12 := Aside0.mk (show Below bo W (w11.setRow bo ([Value.string x.f0, .int .i64 x.f1, .slice Al nl cl, .string x.f3, .int .i64 x.f4, .int .i64 0]).toArray) from below_setRow' B11.out (Nat.le_refl _) _)
  clear q
  generalize w11.setRow bo ([Value.string x.f0, .int .i64 x.f1, .slice Al nl cl, .string x.f3, .int .i64 x.f4, .int .i64 0]).toArray = w12 at *
  have q := O12.out.set 5 (.int .i64 x.f5)
  rw [show ([Value.string x.f0, .int .i64 x.f1, .slice Al nl cl, .string x.f3, .int .i64 x.f4, .int .i64 0]).set 5 (.int .i64 x.f5) = [Value.string x.f0, .int .i64 x.f1, .slice Al nl cl, .string x.f3, .int .i64 x.f4, .int .i64 x.f5] from rfl] at q
  rw [q]
  have O13 := Aside0.mk (show Rt 40 bo [Value.string x.f0, .int .i64 x.f1, .slice Al nl cl, .string x.f3, .int .i64 x.f4, .int .i64 x.f5] (w12.setRow bo ([Value.string x.f0, .int .i64 x.f1, .slice Al nl cl, .string x.f3, .int .i64 x.f4, .int .i64 x.f5]).toArray) from O12.out.row _)
  have E13 := Aside0.mk (show Rt 22 be [.int .i64 0] (w12.setRow bo ([Value.string x.f0, .int .i64 x.f1, .slice Al nl cl, .string x.f3, .int .i64 x.f4, .int .i64 x.f5]).toArray) from (setRow_other _ _ _ _ hne1).trans E12.out)
  have A13 := Aside0.mk (show Rt 3 ba [.int .i64 0] (w12.setRow bo ([Value.string x.f0, .int .i64 x.f1, .slice Al nl cl, .string x.f3, .int .i64 x.f4, .int .i64 x.f5]).toArray) from (setRow_other _ _ _ _ hne2).trans A12.out)
  have Ll_13 := Aside0.mk (LN_alive.row Ll_12.out (show bo < bo + 4 by omega) ([Value.string x.f0, .int .i64 x.f1, .slice Al nl cl, .string x.f3, .int .i64 x.f4, .int .i64 x.f5]).toArray)
  have B13 := Aside0.mk (show Below bo W (w12.setRow bo ([Value.string x.f0, .int .i64 x.f1, .slice Al nl cl, .string x.f3, .int .i64 x.f4, .int .i64 x.f5]).toArray) from below_setRow' B12.out (Nat.le_refl _) _)
  clear q
  generalize w12.setRow bo ([Value.string x.f0, .int .i64 x.f1, .slice Al nl cl, .string x.f3, .int .i64 x.f4, .int .i64 x.f5]).toArray = w13 at *
  rw [E13.out.same 0 _ rfl, A13.out.same 0 _ rfl]
  refine leaves_cons (f := 123) (args := #[ptr bo, ptr be, ptr ba]) (by simp) (by simp [go_sem]) ?_
  refine (idle_req (bo := bo) (be := be) (ba := ba) w13).mono ?_
  rintro e u' w' ⟨rfl, rfl, hb⟩
  have ho := O13.out.below hb
  have he := E13.out.below hb
  have ha := A13.out.below hb
  have hl := LN_alive.below Ll_13.out hb
  have x0 := ho.cell 0 _ rfl
  have x1 := ho.cell 1 _ rfl
  have x2 := ho.cell 2 _ rfl
  have x3 := ho.cell 3 _ rfl
  have x4 := ho.cell 4 _ rfl
  have x5 := ho.cell 5 _ rfl
  have y0 := he.cell 0 _ rfl
  have z0 := ha.cell 0 _ rfl
  rw [HR.out]
  simp [Leaves, settle, results, Try.results74, go_sem, x0, x1, x2, x3, x4, x5, y0, z0]
  refine ⟨by rw [HBO.out]; exact B13.out.trans (hb.mono (by have := B13.out.size; have := HBO.out; omega)), _, ⟨rfl, rfl, rfl⟩, Al, nl, cl, rfl, LN_alive.lower hl (by have := HBO.out; omega)⟩
end Go.Proofs.Ytafmoglaockepaa.Cd
end
section
namespace Go.Proofs.Ytafmoglaockepaa.Cd
open Go Go.RowKit Go.Proofs.Ytafmoglaockepaa.Num Go.Proofs.Ytafmoglaockepaa.PG Go.Proofs.YtafmoglaockepaaW.PrintWords Go.Proofs.YtafmoglaockepaaW.PrintLast Go.Proofs.YtafmoglaockepaaW.PrintMore
set_option linter.unusedVariables false
set_option linter.unusedSimpArgs false
set_option maxHeartbeats 4000000
set_option maxRecDepth 100000
def zeroD_req : S40 := ⟨⟨#[]⟩, 0, [], ⟨#[]⟩, 0, 0⟩
theorem enc_out_req {S0 : Nat} {r : Res S40} {v : Value} {w : World} (h : RdOut memReq zero_req S0 r v w) : memReq S0 (outOr zeroD_req r) v w := by
  cases r with
  | ok x n => exact h
  | fail e p =>
    have h : v = .agg zero_req.toArray := h
    subst h
    exact ⟨none, 0, 0, rfl, Kd.R_nil _ _ _ _ _⟩
theorem Rt.full_req {t b : Nat} {z0 z1 z2 z3 z4 z5 : Value} {W : World} (h : Rt t b [z0, z1, z2, z3, z4, z5] W) (a0 a1 a2 a3 a4 a5 : Value) :
    ((((((W.setCell ⟨b, 0, none⟩ a0).setCell ⟨b, 1, none⟩ a1).setCell ⟨b, 2, none⟩ a2).setCell ⟨b, 3, none⟩ a3).setCell ⟨b, 4, none⟩ a4).setCell ⟨b, 5, none⟩ a5) = W.setRow b [a0, a1, a2, a3, a4, a5].toArray := by
  rw [h.set 0 a0]
  have h0 : Rt t b [a0, z1, z2, z3, z4, z5] (W.setRow b ([z0, z1, z2, z3, z4, z5].set 0 a0).toArray) := h.row _
  rw [h0.set 1 a1, setRow_again]
  have h1 : Rt t b [a0, a1, z2, z3, z4, z5] (W.setRow b ([a0, z1, z2, z3, z4, z5].set 1 a1).toArray) := h.row _
  rw [h1.set 2 a2, setRow_again]
  have h2 : Rt t b [a0, a1, a2, z3, z4, z5] (W.setRow b ([a0, a1, z2, z3, z4, z5].set 2 a2).toArray) := h.row _
  rw [h2.set 3 a3, setRow_again]
  have h3 : Rt t b [a0, a1, a2, a3, z4, z5] (W.setRow b ([a0, a1, a2, z3, z4, z5].set 3 a3).toArray) := h.row _
  rw [h3.set 4 a4, setRow_again]
  have h4 : Rt t b [a0, a1, a2, a3, a4, z5] (W.setRow b ([a0, a1, a2, a3, z4, z5].set 4 a4).toArray) := h.row _
  rw [h4.set 5 a5, setRow_again]
  rfl
theorem Request_at (A : Option Addr) (n c : Nat) (xs : List Int) (W : World) (hC : Kd.C (Kd.int .u8) W A n xs) (hnc : n ≤ c) (hb : IsBytes xs) (hbig : n < 1000000000) :
    Calls Try.prog 24 #[.slice A n c] W fun e w' => Below W.heap.size W w' ∧ ∃ v, e = .returned (.tuple #[v, .int .i64 (endOf (whole 81 4096 xs (pReq xs 4096))).1, .int .i64 (endOf (whole 81 4096 xs (pReq xs 4096))).2]) ∧ memReq W.heap.size (outOr zeroD_req (whole 81 4096 xs (pReq xs 4096))) v w' := by
  have hb1 : Below W.heap.size W (W.alloc (.cells #[.string ⟨#[]⟩, .int .i64 0, .slice none 0 0, .string ⟨#[]⟩, .int .i64 0, .int .i64 0] 40)) := below_alloc (Below.refl _ _) _
  have r1 : Rt 40 W.heap.size zero_req (W.alloc (.cells #[.string ⟨#[]⟩, .int .i64 0, .slice none 0 0, .string ⟨#[]⟩, .int .i64 0, .int .i64 0] 40)) := heap_alloc_new W _
  have hC1 := Kd.C_below hC hb1
  have HRD := Aside0.mk (read_request A n c xs (W.alloc (.cells #[.string ⟨#[]⟩, .int .i64 0, .slice none 0 0, .string ⟨#[]⟩, .int .i64 0, .int .i64 0] 40)) hC1 hnc hb hbig)
  generalize whole 81 4096 xs (pReq xs 4096) = rr at *
  have B1 := Aside0.mk hb1
  clear hC hC1 hnc hb hbig
  go_enter Try.func24, Try.ntmps24
  go_upto_region 1 with fail
  obtain ⟨b, hbe⟩ : ∃ b, W.heap.size = b := ⟨_, rfl⟩
  have HBE := Aside0.mk hbe
  rw [hbe] at r1 ⊢
  have R1 := Aside0.mk r1
  clear hb1 r1 hbe
  generalize W.alloc (.cells #[.string ⟨#[]⟩, .int .i64 0, .slice none 0 0, .string ⟨#[]⟩, .int .i64 0, .int .i64 0] 40) = w1 at *
  go_wp2_with fail
  go_at_call 74
  refine HRD.out.mono ?_
  rintro e w2 ⟨hb, v, rfl, ho⟩
  obtain ⟨Al, nl, cl, hv, hl⟩ := enc_out_req ho
  subst hv
  obtain ⟨x, hx⟩ : ∃ x, outOr zeroD_req rr = x := ⟨_, rfl⟩
  obtain ⟨ec, hec⟩ : ∃ ec, (endOf rr).1 = ec := ⟨_, rfl⟩
  obtain ⟨ep, hep⟩ : ∃ ep, (endOf rr).2 = ep := ⟨_, rfl⟩
  rw [hx] at hl ⊢
  rw [hec, hep]
  have HX := Aside0.mk (And.intro hx (And.intro hec hep))
  have R2 := Aside0.mk (R1.out.below hb)
  have Ll_2 := Aside0.mk (LN_alive.lower hl R1.out.lt)
  have B2 := Aside0.mk (show Below W.heap.size W w2 from B1.out.trans (hb.mono B1.out.size))
  clear hb ho hl HRD hx hec hep
  have z0 := R2.out.cell 0 _ rfl
  have f0 := R2.out.free 0
  have z1 := R2.out.cell 1 _ rfl
  have f1 := R2.out.free 1
  have z2 := R2.out.cell 2 _ rfl
  have f2 := R2.out.free 2
  have z3 := R2.out.cell 3 _ rfl
  have f3 := R2.out.free 3
  have z4 := R2.out.cell 4 _ rfl
  have f4 := R2.out.free 4
  have z5 := R2.out.cell 5 _ rfl
  have f5 := R2.out.free 5
  go_wp2_with fail
  rw [R2.out.full_req]
  have R3 : Rt 40 b [.string x.f0, .int .i64 x.f1, .slice Al nl cl, .string x.f3, .int .i64 x.f4, .int .i64 x.f5] (w2.setRow b [Value.string x.f0, .int .i64 x.f1, .slice Al nl cl, .string x.f3, .int .i64 x.f4, .int .i64 x.f5].toArray) := R2.out.row _
  have Ll_3 := LN_alive.row Ll_2.out (Nat.lt_succ_self b) [Value.string x.f0, .int .i64 x.f1, .slice Al nl cl, .string x.f3, .int .i64 x.f4, .int .i64 x.f5].toArray
  have B3 : Below W.heap.size W (w2.setRow b [Value.string x.f0, .int .i64 x.f1, .slice Al nl cl, .string x.f3, .int .i64 x.f4, .int .i64 x.f5].toArray) := below_setRow' B2.out (Nat.le_of_eq HBE.out) _
  clear z0 f0 z1 f1 z2 f2 z3 f3 z4 f4 z5 f5
  generalize w2.setRow b [Value.string x.f0, .int .i64 x.f1, .slice Al nl cl, .string x.f3, .int .i64 x.f4, .int .i64 x.f5].toArray = w3 at *
  have x0 := R3.cell 0 _ rfl
  have x1 := R3.cell 1 _ rfl
  have x2 := R3.cell 2 _ rfl
  have x3 := R3.cell 3 _ rfl
  have x4 := R3.cell 4 _ rfl
  have x5 := R3.cell 5 _ rfl
  refine ⟨rfl, ?_⟩
  simp [results, Try.results24, go_sem, x0, x1, x2, x3, x4, x5]
  refine ⟨B3, _, ⟨rfl, HX.out.2.1.symm, HX.out.2.2.symm⟩, ?_⟩
  rw [HX.out.1]
  exact ⟨Al, nl, cl, rfl, LN_alive.lower Ll_3 (by have := HBE.out; omega)⟩
end Go.Proofs.Ytafmoglaockepaa.Cd
end
section
-- Written by a program of this session (wip/pp), out of the translation.
namespace Go.Proofs.Ytafmoglaockepaa.PG
open Go.RowKit Go.Proofs.Ytafmoglaockepaa.Mine Go.Proofs.YtafmoglaockepaaW.PrintWords Go.Proofs.YtafmoglaockepaaW.PrintLast Go.Proofs.YtafmoglaockepaaW.PrintMore
attribute [local go_sem] max2_int min2_int max_two min_two max_three min_three max_four min_four   -- for this text's walks alone
set_option linter.unusedVariables false
set_option linter.unusedSimpArgs false
end Go.Proofs.Ytafmoglaockepaa.PG
end
section
namespace Go.Proofs.Ytafmoglaockepaa.Cd
open Go Go.RowKit Go.Proofs.Ytafmoglaockepaa.Mine Go.Proofs.Ytafmoglaockepaa.Num Go.Proofs.Ytafmoglaockepaa.PG Go.Proofs.YtafmoglaockepaaW.PrintWords Go.Proofs.YtafmoglaockepaaW.PrintLast Go.Proofs.YtafmoglaockepaaW.PrintMore
set_option linter.unusedVariables false
set_option linter.unusedSimpArgs false
set_option maxHeartbeats 4000000
set_option maxRecDepth 100000
def sumL (l : List S28) : Nat := (l.map fun x => 3 + x.f0.size).sum
theorem sumL_count : ∀ l : List S28, 3 * l.length ≤ sumL l
  | [] => by simp [sumL]
  | x :: l => by
    have := sumL_count l
    simp only [sumL, List.map_cons, List.sum_cons, List.length_cons] at this ⊢
    omega
theorem bulkL_sum : ∀ l : List S28, bulkL l ≤ 10 * sumL l
  | [] => by simp [bulkL, sumL]
  | x :: l => by
    have := bulkL_sum l
    simp only [sumL, bulkL, List.map_cons, List.sum_cons] at this ⊢
    omega
end Go.Proofs.Ytafmoglaockepaa.Cd
end
section
namespace Go.Proofs.Ytafmoglaockepaa.Cd
open Go Go.RowKit Go.Proofs.Ytafmoglaockepaa.Num Go.Proofs.Ytafmoglaockepaa.PG Go.Proofs.YtafmoglaockepaaW.PrintWords Go.Proofs.YtafmoglaockepaaW.PrintLast Go.Proofs.YtafmoglaockepaaW.PrintMore
set_option linter.unusedVariables false
set_option linter.unusedSimpArgs false
set_option maxHeartbeats 4000000
set_option maxRecDepth 100000
theorem sameLines_l0 (l : List S110) (hl : l.length ≤ 9223372036854775807) : ∀ d i k : Nat, d + 1 ≤ k → i + d = l.length → larderref09_SameLines.l0 k l l (i : Int) = some true
  | 0, i, k, hk, h => by
    obtain ⟨k, rfl⟩ : ∃ q, k = q + 1 := ⟨k - 1, by omega⟩
    unfold larderref09_SameLines.l0
    rw [if_neg (by omega)]
  | d + 1, i, k, hk, h => by
    obtain ⟨k, rfl⟩ : ∃ q, k = q + 1 := ⟨k - 1, by omega⟩
    unfold larderref09_SameLines.l0
    rw [if_pos (by omega), if_pos (by omega), if_pos (by omega), w64n (by omega), sameLines_l0 l hl d (i + 1) k (by omega) (by omega)]
    simp
theorem sameLines_ok (l : List S110) (hl : l.length ≤ 9223372036854775807) (k : Nat) (hk : l.length + 1 ≤ k) : larderref09_SameLines.f k l l = some true := by
  unfold larderref09_SameLines.f
  rw [if_pos rfl]
  exact sameLines_l0 l hl l.length 0 k hk (by omega)
theorem sameRequest_ok (q : S40) (hl : q.f2.length ≤ 9223372036854775807) (k : Nat) (hk : q.f2.length + 1 ≤ k) : larderref09_SameRequest.f k q.f0 q.f1 q.f2 q.f3 q.f4 q.f5 q.f0 q.f1 q.f2 q.f3 q.f4 q.f5 = some true := by
  unfold larderref09_SameRequest.f
  rw [if_pos rfl, if_pos rfl, sameLines_ok q.f2 hl k hk, Option.bind_some, if_pos rfl, if_pos rfl, if_pos rfl]
  simp
def sumN (l : List S110) : Nat := (l.map fun x => 2 + x.f0.size).sum
def sumQ (q : S40) : Nat := q.f0.size + q.f3.size + sumN q.f2
theorem sumN_count : ∀ l : List S110, 2 * l.length ≤ sumN l
  | [] => by simp [sumN]
  | x :: l => by
    have := sumN_count l
    simp only [sumN, List.map_cons, List.sum_cons, List.length_cons] at this ⊢
    omega
theorem sumN_cons (x : S110) (l : List S110) : sumN (x :: l) = 2 + x.f0.size + sumN l := by simp [sumN]
theorem bulkN_sum : ∀ l : List S110, bulkN l ≤ 10 * sumN l
  | [] => by simp [bulkN, sumN]
  | x :: l => by
    have := bulkN_sum l
    simp only [sumN, bulkN, List.map_cons, List.sum_cons] at this ⊢
    omega
theorem bulkQ_sum (q : S40) : bulkQ q ≤ 60 + 10 * sumQ q := by
  have := bulkN_sum q.f2
  unfold bulkQ sumQ
  omega
theorem weight_l0 (l : List S110) (z0 : ByteArray) (z1 : Int) (z3 : ByteArray) (z4 z5 : Int) (hll : l.length < 9223372036854775807) : ∀ (d i k s : Nat), d + 1 ≤ k → i + d = l.length → s + sumN (l.drop i) < 9223372036854775807 → larderlaw09_weight.l0 k (s : Int) (i : Int) z0 z1 l z3 z4 z5 = some ((s + sumN (l.drop i) : Nat) : Int)
  | 0, i, k, s, hk, h, hb => by
    obtain ⟨k, rfl⟩ : ∃ q, k = q + 1 := ⟨k - 1, by omega⟩
    unfold larderlaw09_weight.l0
    rw [if_neg (by omega), List.drop_of_length_le (by omega)]
    simp [sumN]
  | d + 1, i, k, s, hk, h, hb => by
    obtain ⟨k, rfl⟩ : ∃ q, k = q + 1 := ⟨k - 1, by omega⟩
    obtain ⟨x, hx⟩ : ∃ x, l[i]? = some x := ⟨_, List.getElem?_eq_getElem (by omega)⟩
    have he := drop_at hx
    rw [he, sumN_cons] at hb
    have ih := weight_l0 l z0 z1 z3 z4 z5 hll d (i + 1) k (s + 2 + x.f0.size) (by omega) (by omega) (by omega)
    have w1 : wrap64 ((s : Int) + 2) = ((s + 2 : Nat) : Int) := by unfold wrap64; omega
    have w2 : wrap64 (((s + 2 : Nat) : Int) + (x.f0.size : Int)) = ((s + 2 + x.f0.size : Nat) : Int) := by unfold wrap64; omega
    unfold larderlaw09_weight.l0
    rw [if_pos (by omega), if_pos (by omega), rd110 hx, w1, w2, w64n (by omega), ih, he, sumN_cons]
    congr 2
    omega
theorem weight_ok (q : S40) (hb : sumQ q < 9223372036854775807) (k : Nat) (hk : q.f2.length + 1 ≤ k) : larderlaw09_weight.f k q.f0 q.f1 q.f2 q.f3 q.f4 q.f5 = some (sumQ q : Int) := by
  have hc := sumN_count q.f2
  have hq : sumQ q = q.f0.size + q.f3.size + sumN q.f2 := rfl
  have := weight_l0 q.f2 q.f0 q.f1 q.f3 q.f4 q.f5 (by omega) q.f2.length 0 k (q.f0.size + q.f3.size) hk (by omega) (by rw [List.drop_zero]; omega)
  rw [List.drop_zero] at this
  have e0 : ((0 : Nat) : Int) = 0 := rfl
  rw [e0] at this
  unfold larderlaw09_weight.f
  rw [show wrap64 ((q.f0.size : Int) + (q.f3.size : Int)) = ((q.f0.size + q.f3.size : Nat) : Int) by unfold wrap64; omega, this, hq]
end Go.Proofs.Ytafmoglaockepaa.Cd
end
section
namespace Go.Proofs.Ytafmoglaockepaa.Cd
open Go Go.RowKit Go.Proofs.Ytafmoglaockepaa.Mine Go.Proofs.Ytafmoglaockepaa.Num Go.Proofs.Ytafmoglaockepaa.PG Go.Proofs.YtafmoglaockepaaW.PrintWords Go.Proofs.YtafmoglaockepaaW.PrintLast Go.Proofs.YtafmoglaockepaaW.PrintMore
set_option linter.unusedVariables false
set_option linter.unusedSimpArgs false
set_option maxHeartbeats 4000000
set_option maxRecDepth 100000
def exQ : S40 := ⟨{ data := #[114] }, 1, [⟨{ data := #[97] }, 5⟩], ⟨#[]⟩, 0, 0⟩
theorem exQ_bytes : 81 :: encQ exQ = [81, 1, 114, 2, 1, 1, 97, 10, 0, 0, 0] := by decide +kernel
theorem exQ_ok : ReqOk exQ := by
  refine ⟨⟨by decide, by decide⟩, fun x hx => ?_, ⟨by decide, by decide⟩, ⟨by decide, by decide⟩⟩
  have : x = ⟨{ data := #[97] }, 5⟩ := by simpa [exQ] using hx
  subst this
  exact ⟨by decide, by decide⟩
theorem C_line (W : World) (x : S110) (W' : World) (hb : Below (W.heap.size + 1) (W.alloc (.cells #[.string x.f0, .int .i64 x.f1] 110)) W') : Kd.C k110 W' (some ⟨W.heap.size, 0, none⟩) [x].length [x] := by
  have r : Rt 110 W.heap.size [.string x.f0, .int .i64 x.f1] (W.alloc (.cells #[.string x.f0, .int .i64 x.f1] 110)) := heap_alloc_new W _
  have r2 : Rt 110 W.heap.size [.string x.f0, .int .i64 x.f1] W' := (hb.block _ (Nat.lt_succ_self _)).trans r
  refine ⟨rfl, by simp, fun _ => ⟨_, rfl, fun j p hj => ?_⟩⟩
  have hj0 : j = 0 := by
    have := (List.getElem?_eq_some_iff.1 hj).1
    simp at this
    exact this
  subst hj0
  have : x = p := by simpa using hj
  subst this
  refine ⟨_, rfl, k110_mk _ _, fun i u hi => ?_⟩
  have h2 := r2.cell i u hi
  rcases i with _ | i <;> simpa [Addr.add] using h2
theorem works_at (W : World) : Calls Try.prog 39 #[] W fun e w' => e = .returned (.bool true) ∧ Below W.heap.size W w' := by
  have B1 := Aside0.mk (show Below W.heap.size W (W.alloc (.cells #[.string { data := #[97] }, .int .i64 5] 110)) from below_alloc (Below.refl _ _) _)
  have hc0 := C_line W ⟨{ data := #[97] }, 5⟩
  have hs1 : (W.alloc (.cells #[.string { data := #[97] }, .int .i64 5] 110)).heap.size = W.heap.size + 1 := Array.size_push ..
  go_enter Try.func39, Try.ntmps39
  go_upto_region 2 with fail
  obtain ⟨b0, hb0⟩ : ∃ b, W.heap.size = b := ⟨_, rfl⟩
  have HB0 := Aside0.mk hb0
  rw [hb0] at hs1 hc0 ⊢
  generalize W.alloc (.cells #[.string { data := #[97] }, .int .i64 5] 110) = w0 at *
  have hb1 : Below w0.heap.size w0 (w0.alloc (.cells #[.string { data := #[114] }, .int .i64 1, .slice (some ⟨b0, 0, none⟩) 1 1, .string { data := #[] }, .int .i64 0, .int .i64 0] 40)) := below_alloc (Below.refl _ _) _
  have r1 : Rt 40 w0.heap.size [.string { data := #[114] }, .int .i64 1, .slice (some ⟨b0, 0, none⟩) 1 1, .string { data := #[] }, .int .i64 0, .int .i64 0] (w0.alloc (.cells #[.string { data := #[114] }, .int .i64 1, .slice (some ⟨b0, 0, none⟩) 1 1, .string { data := #[] }, .int .i64 0, .int .i64 0] 40)) := heap_alloc_new w0 _
  rw [hs1] at hb1 r1
  have R1 := Aside0.mk r1
  have X1 := Aside0.mk hb1
  have HC := Aside0.mk hc0
  have B1' := Aside0.mk (show Below W.heap.size W (w0.alloc (.cells #[.string { data := #[114] }, .int .i64 1, .slice (some ⟨b0, 0, none⟩) 1 1, .string { data := #[] }, .int .i64 0, .int .i64 0] 40)) from B1.out.trans (hb1.mono (by omega)))
  clear hb0 hc0 hb1 r1 hs1 B1
  generalize w0.alloc (.cells #[.string { data := #[114] }, .int .i64 1, .slice (some ⟨b0, 0, none⟩) 1 1, .string { data := #[] }, .int .i64 0, .int .i64 0] 40) = w1 at *
  have HPR := Aside0.mk (PutRequest_at exQ.f0 exQ.f1 (some ⟨b0, 0, none⟩) exQ.f2.length 1 exQ.f2 exQ.f3 exQ.f4 exQ.f5 w1 (HC.out _ X1.out) exQ_ok.2.1 exQ_ok.1 exQ_ok.2.2.1 exQ_ok.2.2.2 (by decide))
  rw [show encReq exQ.f0 exQ.f1 exQ.f2 exQ.f3 exQ.f4 exQ.f5 = encQ exQ from rfl, exQ_bytes] at HPR
  have o0 := R1.out.cell 0 _ rfl
  have o1 := R1.out.cell 1 _ rfl
  have o2 := R1.out.cell 2 _ rfl
  have o3 := R1.out.cell 3 _ rfl
  have o4 := R1.out.cell 4 _ rfl
  have o5 := R1.out.cell 5 _ rfl
  go_wp2_with fail
  go_at_call 21
  refine HPR.out.mono ?_
  rintro e w2 ⟨v, rfl, hR, hb⟩
  obtain ⟨Ap, cp, rfl, hcp, hPC⟩ := Kd.R_reads hR
  rw [show putOut 4096 [81, 1, 114, 2, 1, 1, 97, 10, 0, 0, 0] = [81, 1, 114, 2, 1, 1, 97, 10, 0, 0, 0] from rfl] at hcp hPC ⊢
  rw [show putCode 4096 [81, 1, 114, 2, 1, 1, 97, 10, 0, 0, 0] = 0 from rfl]
  have HRA := Aside0.mk (Request_at Ap _ cp _ w2 hPC hcp (by intro x hx; simp at hx; omega) (by decide))
  have HBK := back_req exQ exQ_ok (by decide +kernel)
  rw [exQ_bytes] at HBK
  rw [HBK] at HRA
  simp only [outOr, endOf] at HRA
  obtain ⟨P, hP⟩ : ∃ P : List Int, [81, 1, 114, 2, 1, 1, 97, 10, 0, 0, 0] = P := ⟨_, rfl⟩
  have HP := Aside0.mk hP
  rw [hP] at hcp hPC HRA ⊢
  have B2 := Aside0.mk (B1'.out.trans (hb.mono (by have := R1.out.lt; have := HB0.out; omega)))
  have R2 := Aside0.mk (R1.out.below hb)
  have CO2 := Aside0.mk (Kd.C_below (HC.out _ X1.out) hb)
  have CP2 := Aside0.mk hPC
  clear hR hb hcp hPC hP HBK HPR o0 o1 o2 o3 o4 o5
  go_wp2_with fail
  go_at_call 24
  refine HRA.out.mono ?_
  rintro e w3 ⟨hb, v, rfl, A5, n5, c5, rfl, hR5⟩
  obtain ⟨A5', c5', e5, hc5, hC5⟩ := Kd.R_reads hR5
  injection e5 with e1 e2 e3
  subst e1 e2 e3
  have hb3 : Below w3.heap.size w3 (w3.alloc (.cells #[.string exQ.f0, .int .i64 exQ.f1, .slice A5 exQ.f2.length c5, .string exQ.f3, .int .i64 exQ.f4, .int .i64 exQ.f5] 40)) := below_alloc (Below.refl _ _) _
  have r3 : Rt 40 w3.heap.size [.string exQ.f0, .int .i64 exQ.f1, .slice A5 exQ.f2.length c5, .string exQ.f3, .int .i64 exQ.f4, .int .i64 exQ.f5] (w3.alloc (.cells #[.string exQ.f0, .int .i64 exQ.f1, .slice A5 exQ.f2.length c5, .string exQ.f3, .int .i64 exQ.f4, .int .i64 exQ.f5] 40)) := heap_alloc_new w3 _
  have hb4 := hb.trans (hb3.mono hb.size)
  have R4 := Aside0.mk (R2.out.below hb4)
  have B4 := Aside0.mk (B2.out.trans (hb4.mono (by have := R2.out.lt; have := HB0.out; omega)))
  have CO4 := Aside0.mk (Kd.C_below CO2.out hb4)
  have CP4 := Aside0.mk (Kd.C_below CP2.out hb4)
  have C54 := Aside0.mk (show Kd.C k110 _ A5 exQ.f2.length exQ.f2 from Kd.C_below hC5 hb3)
  have HC5 := Aside0.mk (show exQ.f2.length ≤ c5 from hc5)
  go_upto_region 4 with fail
  obtain ⟨b5, hb5⟩ : ∃ b, w3.heap.size = b := ⟨_, rfl⟩
  rw [hb5] at r3 ⊢
  have R5 := Aside0.mk r3
  clear hb hb3 hb4 r3 hC5 hc5 hR5 hb5 HRA
  generalize w3.alloc (.cells #[.string exQ.f0, .int .i64 exQ.f1, .slice A5 exQ.f2.length c5, .string exQ.f3, .int .i64 exQ.f4, .int .i64 exQ.f5] 40) = w4 at *
  have HSR := Aside0.mk (larderref09_SameRequest.calls (exQ.f2.length + 1) exQ.f0 exQ.f1 A5 c5 exQ.f2 exQ.f3 exQ.f4 exQ.f5 exQ.f0 exQ.f1 (some ⟨b0, 0, none⟩) 1 exQ.f2 exQ.f3 exQ.f4 exQ.f5 true w4 C54.out HC5.out CO4.out (by decide) (sameRequest_ok exQ (by decide) _ (Nat.le_refl _)))
  have s1 : (convert 26 9 (.slice Ap P.length cp)).run Try.prog w4 = .ok (.string (strOfNums P)) w4 := Kd.C_string Try.underlying26 Try.underlying5 Try.underlying9 CP4.out
  have t1 : ((strOfNums P).toList == [81, 1, 114, 2, 1, 1, 97, 10, 0, 0, 0]) = true := by rw [← HP.out]; decide +kernel
  have t2 : ((strOfNums P).toList = [81, 1, 114, 2, 1, 1, 97, 10, 0, 0, 0]) = True := eq_true (by simpa using t1)
  have q0 := R5.out.cell 0 _ rfl
  have q1 := R5.out.cell 1 _ rfl
  have q2 := R5.out.cell 2 _ rfl
  have q3 := R5.out.cell 3 _ rfl
  have q4 := R5.out.cell 4 _ rfl
  have q5 := R5.out.cell 5 _ rfl
  have o0 := R4.out.cell 0 _ rfl
  have o1 := R4.out.cell 1 _ rfl
  have o2 := R4.out.cell 2 _ rfl
  have o3 := R4.out.cell 3 _ rfl
  have o4 := R4.out.cell 4 _ rfl
  have o5 := R4.out.cell 5 _ rfl
  go_wp2_with fail
  go_at_call 26
  refine HSR.out.mono ?_
  rintro e w5 ⟨rfl, hb⟩
  have B5 := Aside0.mk (B4.out.trans (hb.mono (by have := R4.out.lt; have := HB0.out; omega)))
  clear hb
  go_wp2_with fail
  go_ret
  rw [← HB0.out] at *
  exact ⟨rfl, B5.out⟩
end Go.Proofs.Ytafmoglaockepaa.Cd
end
section
-- Written by a program of this session (wip/pp), out of the translation.
namespace Go.Proofs.Ytafmoglaockepaa.PG
open Go.RowKit Go.Proofs.Ytafmoglaockepaa.Mine Go.Proofs.YtafmoglaockepaaW.PrintWords Go.Proofs.YtafmoglaockepaaW.PrintLast Go.Proofs.YtafmoglaockepaaW.PrintMore
attribute [local go_sem] max2_int min2_int max_two min_two max_three min_three max_four min_four   -- for this text's walks alone
set_option linter.unusedVariables false
set_option linter.unusedSimpArgs false
end Go.Proofs.Ytafmoglaockepaa.PG
end
section
namespace Go.Proofs.Ytafmoglaockepaa.Bulk
open Go Go.ChangeShapes Go.WideShapes Go.ChangeAt Go.RowKit
theorem one_le {H : Type} (d : DataW H) : 1 ≤ Rows.uptoBulk d := by
  cases d with
  | lit l => cases l <;> simp [Rows.uptoBulk]
  | nil => simp [Rows.uptoBulk]
  | ptr d => simp [Rows.uptoBulk]
  | slice elems spare => simp [Rows.uptoBulk]
  | agg parts => simp [Rows.uptoBulk]
  | iface t d => simp [Rows.uptoBulk]
  | map entries => simp [Rows.uptoBulk]
  | held h => simp [Rows.uptoBulk]
theorem length_le {H : Type} (l : List (DataW H)) : l.length ≤ Rows.uptoBulkAll l := by
  induction l with
  | nil => simp [Rows.uptoBulkAll]
  | cons x r ih => have := one_le x; simp only [Rows.uptoBulkAll, List.length_cons]; omega
theorem bound {H : Type} {l : List (DataW H)} (hk : Rows.uptoSmall H l = true) : Rows.uptoBulkAll l ≤ 1048576 := of_decide_eq_true hk
end Go.Proofs.Ytafmoglaockepaa.Bulk
end
section
namespace Go.Proofs.Ytafmoglaockepaa.Cd
open Go Go.Deep Go.ChangeShapes Go.WideShapes Go.RowKit Go.Proofs.Ytafmoglaockepaa.Num Go.Proofs.Ytafmoglaockepaa.PG Go.Proofs.YtafmoglaockepaaW.PrintWords Go.Proofs.YtafmoglaockepaaW.PrintLast Go.Proofs.YtafmoglaockepaaW.PrintMore
set_option linter.unusedVariables false
set_option maxRecDepth 100000
theorem bytesArg {H : Type} {enc : TypeId × Value → H} {W : World} {base : Nat} {held : Bool} {a : Option Addr} {len cap : Nat} {d : DataW H} {ps : List MemPlace}
    (h : DataW.Trod enc Try.prog W base (fun _ => true) held 26 (.slice a len cap) d ps) : ∃ zs : List Int, Kd.C (Kd.int .u8) W a len zs ∧ len ≤ cap ∧ (∀ v ∈ zs, (Lit.int .u8 v).wf = true) ∧ len + 1 ≤ Rows.uptoBulk d + 0 := by
  obtain ⟨fuel, hf⟩ := h
  rcases open_ints Try.underlying26 Try.underlying5 (by kernel_rfl) hf with ⟨hcs, hx⟩ | ⟨x, l, c, zs, hcs, _, hl, hm, hz, hx, hcell, hwz⟩
  · simp [Value.cells] at hcs
    obtain ⟨rfl, rfl, rfl⟩ := hcs
    obtain ⟨hx, _⟩ := Prod.mk.inj hx
    subst hx
    exact ⟨[], Kd.C_nil _ _, Nat.le_refl _, fun _ hp => (by cases hp), by simp [Rows.uptoBulk]⟩
  · simp [Value.cells] at hcs
    obtain ⟨rfl, rfl, rfl⟩ := hcs
    have hz : zs.length = cap := by simpa using hz
    obtain ⟨hx, _⟩ := Prod.mk.inj hx
    subst hx
    refine ⟨zs.take len, Kd.C_of_reads (d := (0 : Int)) (h1 := fun _ => rfl) ⟨by rw [List.length_take]; omega, by simp only [maxLen] at hm; omega, fun _ => ⟨x, rfl, fun i hi => ?_⟩⟩, hl, fun v hv => hwz v (List.mem_of_mem_take hv), ?_⟩
    · rw [hcell i (by omega)]
      congr 2
      rw [List.getD_eq_getElem?_getD, List.getD_eq_getElem?_getD, List.getElem?_take, if_pos hi]
    · have h1 := Bulk.length_le (lits (H := H) .u8 (zs.take len))
      simp only [Rows.uptoBulk]
      have h2 : (lits (H := H) .u8 (zs.take len)).length = len := by
        simp [lits]
        omega
      omega
theorem isBytes_of {zs : List Int} (h : ∀ v ∈ zs, (Lit.int .u8 v).wf = true) : IsBytes zs := by
  intro v hv
  have := bounds_u8 (h v hv)
  omega
theorem trod_struct5 {H : Type} {enc : TypeId × Value → H} {P : Program} {w : World} {base : Nat} {spare : Nat → Bool} {held : Bool} {t : TypeId} {f0 f1 f2 f3 f4 : Field} {fuel : Nat} {cs : List Value} {x : DataW H × List MemPlace} (ht : P.underlying t = some (.struct #[f0, f1, f2, f3, f4])) (h : DataW.trod enc P w base spare held fuel t cs = some x) :
    ∃ y0 y1 y2 y3 y4 n, x.1 = .agg [y0.1, y1.1, y2.1, y3.1, y4.1] ∧ cs.length = P.cellsOf t ∧ DataW.trod enc P w base spare held n f0.type ((cs.drop f0.offset).take (P.cellsOf f0.type)) = some y0 ∧
      DataW.trod enc P w base spare held n f1.type ((cs.drop f1.offset).take (P.cellsOf f1.type)) = some y1 ∧ DataW.trod enc P w base spare held n f2.type ((cs.drop f2.offset).take (P.cellsOf f2.type)) = some y2 ∧
      DataW.trod enc P w base spare held n f3.type ((cs.drop f3.offset).take (P.cellsOf f3.type)) = some y3 ∧ DataW.trod enc P w base spare held n f4.type ((cs.drop f4.offset).take (P.cellsOf f4.type)) = some y4 := by
  obtain ⟨xs, n, _, rfl, hl, hlen, hf⟩ := DataW.trod_struct ht h
  match xs, hlen with
  | [y0, y1, y2, y3, y4], _ => exact ⟨y0, y1, y2, y3, y4, n, by simp, hl, by simpa using hf 0 f0 rfl, by simpa using hf 1 f1 rfl, by simpa using hf 2 f2 rfl, by simpa using hf 3 f3 rfl, by simpa using hf 4 f4 rfl⟩
theorem list3 {α : Type} {cs : List α} (h : cs.length = 3) : ∃ c0 c1 c2, cs = [c0, c1, c2] := by
  match cs, h with
  | [c0, c1, c2], _ => exact ⟨c0, c1, c2, rfl⟩
theorem list5 {α : Type} {cs : List α} (h : cs.length = 5) : ∃ c0 c1 c2 c3 c4, cs = [c0, c1, c2, c3, c4] := by
  match cs, h with
  | [c0, c1, c2, c3, c4], _ => exact ⟨c0, c1, c2, c3, c4, rfl⟩
theorem array5 {α : Type} {cs : Array α} (h : cs.size = 5) : ∃ c0 c1 c2 c3 c4, cs = #[c0, c1, c2, c3, c4] := by
  obtain ⟨l⟩ := cs
  obtain ⟨c0, c1, c2, c3, c4, rfl⟩ := list5 (show l.length = 5 by simpa using h)
  exact ⟨c0, c1, c2, c3, c4, rfl⟩
theorem int64_of {a : Int} (h : (Lit.int .i64 a).wf = true) : Int64 a := by
  have := bounds_i64 h
  unfold Int64
  omega
theorem sum_bulk {H : Type} (f : Nat → S28) (D : Nat → DataW H) : ∀ L : List Nat, (∀ i ∈ L, 3 + (f i).f0.size ≤ Rows.uptoBulk (D i)) → sumL (L.map f) ≤ Rows.uptoBulkAll (L.map D)
  | [], _ => by simp [sumL]
  | i :: L, h => by
    have h1 := sum_bulk f D L (fun j hj => h j (List.mem_cons_of_mem _ hj))
    have h2 := h i (List.mem_cons_self ..)
    simp only [sumL, Rows.uptoBulkAll, List.map_cons, List.sum_cons] at h1 ⊢
    omega
theorem levelsArg {H : Type} {enc : TypeId × Value → H} {W : World} {base : Nat} {held : Bool} {a : Option Addr} {len cap : Nat} {d : DataW H} {ps : List MemPlace}
    (h : DataW.Trod enc Try.prog W base (fun _ => true) held 23 (.slice a len cap) d ps) : ∃ l : List S28, Kd.C k28 W a len l ∧ len ≤ cap ∧ LevOk l ∧ sumL l ≤ Rows.uptoBulk d := by
  obtain ⟨fuel, hf⟩ := h
  have c3 : Try.prog.cellsOf 3 = 1 := by kernel_rfl
  have c9 : Try.prog.cellsOf 9 = 1 := by kernel_rfl
  have c28 : Try.prog.cellsOf 28 = 3 := by kernel_rfl
  rcases open_slice Try.underlying23 hf with ⟨hcs, _⟩ | ⟨ad, l, c, m, n, D, Pl, hcs, _, hl, hm, hmm, hx, hr⟩
  · simp [Value.cells] at hcs
    obtain ⟨rfl, rfl, rfl⟩ := hcs
    exact ⟨[], Kd.C_nil _ _, Nat.le_refl _, fun _ hp => (by cases hp), by simp [sumL]⟩
  · simp [Value.cells] at hcs
    obtain ⟨rfl, rfl, rfl⟩ := hcs
    rw [if_pos rfl] at hmm
    have hcell : ∀ i, i < len → ∃ p : S28, W.cell? (ad.add (i * 3)) = some (.string p.f0) ∧ W.cell? (ad.add (i * 3 + 1)) = some (.int .i64 p.f1) ∧ W.cell? (ad.add (i * 3 + 2)) = some (.int .i64 p.f2) ∧ (Int64 p.f1 ∧ Int64 p.f2) ∧ 3 + p.f0.size ≤ Rows.uptoBulk (D i) := fun i hi => by
      obtain ⟨cs, hc, ht⟩ := hr i (by omega)
      rw [c28] at hc
      obtain ⟨y0, y1, y2, n', hy, hlen, h0, h1, h2⟩ := trod_struct3 Try.underlying28 ht
      rw [c28] at hlen
      obtain ⟨_, _, hat⟩ := World.cells?_some hc
      obtain ⟨v0, v1, v2, rfl⟩ := list3 hlen
      simp only [c3, c9] at h0 h1 h2
      obtain ⟨k0, e0, x0, w0⟩ := DataW.trod_string Try.underlying9 h0
      obtain ⟨k1, e1, x1, w1⟩ := DataW.trod_int Try.underlying3 h1
      obtain ⟨k2, e2, x2, w2⟩ := DataW.trod_int Try.underlying3 h2
      simp at e0 e1 e2
      subst e0
      subst e1
      subst e2
      have g0 := hat (i := 0) (by decide)
      have g1 := hat (i := 1) (by decide)
      have g2 := hat (i := 2) (by decide)
      rw [Go.Deep.add_add, Nat.add_zero] at g0
      rw [Go.Deep.add_add] at g1 g2
      refine ⟨⟨k0, k1, k2⟩, by simpa using g0, by simpa using g1, by simpa using g2, ⟨int64_of w1, int64_of w2⟩, ?_⟩
      have hD : D i = .agg [y0.1, y1.1, y2.1] := congrArg Prod.fst hy
      rw [hD, x0, x1, x2]
      simp only [Rows.uptoBulk, Rows.uptoBulkAll]
      have : k0.data.toList.length = k0.size := by rw [Array.length_toList]; rfl
      omega
    obtain ⟨f, hfun⟩ : ∃ f : Nat → S28, ∀ i, i < len → W.cell? (ad.add (i * 3)) = some (.string (f i).f0) ∧ W.cell? (ad.add (i * 3 + 1)) = some (.int .i64 (f i).f1) ∧ W.cell? (ad.add (i * 3 + 2)) = some (.int .i64 (f i).f2) ∧ (Int64 (f i).f1 ∧ Int64 (f i).f2) ∧ 3 + (f i).f0.size ≤ Rows.uptoBulk (D i) :=
      ⟨fun i => if h : i < len then (hcell i h).choose else z28, fun i hi => by simp only [dif_pos hi]; exact (hcell i hi).choose_spec⟩
    refine ⟨(List.range len).map f, ⟨by simp, by simp only [maxLen] at hm; omega, fun _ => ⟨ad, rfl, fun j p hj => ?_⟩⟩, hl, fun p hp => ?_, ?_⟩
    · obtain ⟨hj1, hj2⟩ := List.getElem?_eq_some_iff.1 hj
      have hjl : j < len := by simpa using hj1
      simp only [List.getElem_map, List.getElem_range] at hj2
      subst hj2
      obtain ⟨e0, e1, e2, _⟩ := hfun j hjl
      refine ⟨[.string (f j).f0, .int .i64 (f j).f1, .int .i64 (f j).f2], by rfl, k28_mk W (f j), fun i u hu => ?_⟩
      show W.cell? (ad.add (j * 3 + i)) = _
      match i, hu with
      | 0, hu => simp at hu; subst hu; rw [Nat.add_zero]; exact e0
      | 1, hu => simp at hu; subst hu; exact e1
      | 2, hu => simp at hu; subst hu; exact e2
      | i + 3, hu => simp at hu
    · obtain ⟨i, hi, rfl⟩ := List.mem_map.1 hp
      exact (hfun i (List.mem_range.1 hi)).2.2.2.1
    · have hd : d = .slice ((List.range len).map D) ((List.range (m - len)).map fun j => D (len + j)) := congrArg Prod.fst hx
      rw [hd]
      simp only [Rows.uptoBulk]
      have := sum_bulk f D (List.range len) (fun i hi => (hfun i (List.mem_range.1 hi)).2.2.2.2)
      omega
open Go.Joins in
theorem replyArg {H : Type} {enc : TypeId × Value → H} {W : World} {base b0 : Nat} {r : Reach} {held : Bool} {v : Value} {d : DataW H} {ps : List MemPlace} (hv : Value.okWide Try.prog W r b0 25 v)
    (h : DataW.Trod enc Try.prog W base (fun _ => true) held 25 v d ps) : ∃ (id : ByteArray) (er line : Int) (a : Option Addr) (len cap : Nat) (now : Int) (l : List S28), v = .agg #[.string id, .int .i64 er, .int .i64 line, .slice a len cap, .int .i64 now] ∧
      Kd.C k28 W a len l ∧ len ≤ cap ∧ LevOk l ∧ Int64 er ∧ Int64 line ∧ Int64 now ∧ id.size + sumL l + 1 ≤ Rows.uptoBulk d := by
  have c3 : Try.prog.cellsOf 3 = 1 := by kernel_rfl
  have c9 : Try.prog.cellsOf 9 = 1 := by kernel_rfl
  have c22 : Try.prog.cellsOf 22 = 1 := by kernel_rfl
  have c23 : Try.prog.cellsOf 23 = 1 := by kernel_rfl
  have c25 : Try.prog.cellsOf 25 = 5 := by kernel_rfl
  obtain ⟨cs, rfl, hsz⟩ := okWide_struct Try.underlying25 hv
  obtain ⟨v0, v1, v2, v3, v4, rfl⟩ := array5 (hsz.trans c25)
  obtain ⟨fuel, hf⟩ := h
  obtain ⟨y0, y1, y2, y3, y4, n, hx, _, h0, h1, h2, h3, h4⟩ := trod_struct5 Try.underlying25 hf
  simp only [c3, c9, c22, c23] at h0 h1 h2 h3 h4
  have h0' : DataW.trod enc Try.prog W base (fun _ => true) held n 9 [v0] = some y0 := h0
  have h1' : DataW.trod enc Try.prog W base (fun _ => true) held n 22 [v1] = some y1 := h1
  have h2' : DataW.trod enc Try.prog W base (fun _ => true) held n 3 [v2] = some y2 := h2
  have h3' : DataW.trod enc Try.prog W base (fun _ => true) held n 23 [v3] = some y3 := h3
  have h4' : DataW.trod enc Try.prog W base (fun _ => true) held n 3 [v4] = some y4 := h4
  clear h0 h1 h2 h3 h4
  obtain ⟨k0, e0, x0, _⟩ := DataW.trod_string Try.underlying9 h0'
  obtain ⟨k1, e1, x1, w1⟩ := DataW.trod_int Try.underlying22 h1'
  obtain ⟨k2, e2, x2, w2⟩ := DataW.trod_int Try.underlying3 h2'
  obtain ⟨k4, e4, x4, w4⟩ := DataW.trod_int Try.underlying3 h4'
  simp at e0 e1 e2 e4
  subst e0 e1 e2 e4
  obtain ⟨a, len, cap, rfl⟩ : ∃ a len cap, v3 = .slice a len cap := by
    rcases open_slice Try.underlying23 h3' with ⟨hcs, _⟩ | ⟨ad, l, c, _, _, _, _, hcs, _⟩
    · simp at hcs; exact ⟨_, _, _, hcs⟩
    · simp at hcs; exact ⟨_, _, _, hcs⟩
  obtain ⟨l, hC, hl, hlo, hb⟩ := levelsArg (len := len) (cap := cap) (a := a) (d := y3.1) (ps := y3.2) ⟨n, h3'⟩
  refine ⟨k0, k1, k2, a, len, cap, k4, l, rfl, hC, hl, hlo, int64_of w1, int64_of w2, int64_of w4, ?_⟩
  have hd : d = .agg [y0.1, y1.1, y2.1, y3.1, y4.1] := hx
  rw [hd, x0]
  simp only [Rows.uptoBulk, Rows.uptoBulkAll]
  have : k0.data.toList.length = k0.size := by rw [Array.length_toList]; rfl
  omega
end Go.Proofs.Ytafmoglaockepaa.Cd
end
section
namespace Go.Proofs.Ytafmoglaockepaa.Cd
open Go Go.Deep Go.ChangeShapes Go.WideShapes Go.RowKit Go.Proofs.Ytafmoglaockepaa.Num Go.Proofs.Ytafmoglaockepaa.PG Go.Proofs.YtafmoglaockepaaW.PrintWords Go.Proofs.YtafmoglaockepaaW.PrintLast Go.Proofs.YtafmoglaockepaaW.PrintMore
set_option linter.unusedVariables false
set_option maxRecDepth 100000
theorem trod_struct6 {H : Type} {enc : TypeId × Value → H} {P : Program} {w : World} {base : Nat} {spare : Nat → Bool} {held : Bool} {t : TypeId} {f0 f1 f2 f3 f4 f5 : Field} {fuel : Nat} {cs : List Value} {x : DataW H × List MemPlace} (ht : P.underlying t = some (.struct #[f0, f1, f2, f3, f4, f5])) (h : DataW.trod enc P w base spare held fuel t cs = some x) :
    ∃ y0 y1 y2 y3 y4 y5 n, x.1 = .agg [y0.1, y1.1, y2.1, y3.1, y4.1, y5.1] ∧ cs.length = P.cellsOf t ∧ DataW.trod enc P w base spare held n f0.type ((cs.drop f0.offset).take (P.cellsOf f0.type)) = some y0 ∧
      DataW.trod enc P w base spare held n f1.type ((cs.drop f1.offset).take (P.cellsOf f1.type)) = some y1 ∧ DataW.trod enc P w base spare held n f2.type ((cs.drop f2.offset).take (P.cellsOf f2.type)) = some y2 ∧
      DataW.trod enc P w base spare held n f3.type ((cs.drop f3.offset).take (P.cellsOf f3.type)) = some y3 ∧ DataW.trod enc P w base spare held n f4.type ((cs.drop f4.offset).take (P.cellsOf f4.type)) = some y4 ∧ DataW.trod enc P w base spare held n f5.type ((cs.drop f5.offset).take (P.cellsOf f5.type)) = some y5 := by
  obtain ⟨xs, n, _, rfl, hl, hlen, hf⟩ := DataW.trod_struct ht h
  match xs, hlen with
  | [y0, y1, y2, y3, y4, y5], _ => exact ⟨y0, y1, y2, y3, y4, y5, n, by simp, hl, by simpa using hf 0 f0 rfl, by simpa using hf 1 f1 rfl, by simpa using hf 2 f2 rfl, by simpa using hf 3 f3 rfl, by simpa using hf 4 f4 rfl, by simpa using hf 5 f5 rfl⟩
theorem sum_bulkP {H α : Type} (wt : α → Nat) (f : Nat → α) (D : Nat → DataW H) : ∀ L : List Nat, (∀ i ∈ L, wt (f i) ≤ Rows.uptoBulk (D i)) → ((L.map f).map wt).sum ≤ Rows.uptoBulkAll (L.map D)
  | [], _ => by simp
  | i :: L, h => by
    have h1 := sum_bulkP wt f D L (fun j hj => h j (List.mem_cons_of_mem _ hj))
    have h2 := h i (List.mem_cons_self ..)
    simp only [Rows.uptoBulkAll, List.map_cons, List.sum_cons] at h1 ⊢
    omega
theorem rowArg {H α : Type} {enc : TypeId × Value → H} {W : World} {base : Nat} {held : Bool} {a : Option Addr} {len cap : Nat} {d : DataW H} {ps : List MemPlace} {sl e : TypeId} (kd : Kd α) (z : α) (Ok : α → Prop) (wt : α → Nat) (hu : Try.prog.underlying sl = some (.slice e)) (hsz : Try.prog.cellsOf e = kd.sz)
    (hel : ∀ (fuel : Nat) (cs : List Value) (x : DataW H × List MemPlace), DataW.trod enc Try.prog W base (fun _ => true) held fuel e cs = some x → ∃ p, kd.K W p cs ∧ Ok p ∧ wt p ≤ Rows.uptoBulk x.1)
    (h : DataW.Trod enc Try.prog W base (fun _ => true) held sl (.slice a len cap) d ps) : ∃ l : List α, Kd.C kd W a len l ∧ len ≤ cap ∧ (∀ p ∈ l, Ok p) ∧ (l.map wt).sum + 1 ≤ Rows.uptoBulk d := by
  obtain ⟨fuel, hf⟩ := h
  rcases open_slice hu hf with ⟨hcs, hx⟩ | ⟨ad, l, c, m, n, D, Pl, hcs, _, hl, hm, hmm, hx, hr⟩
  · simp [Value.cells] at hcs
    obtain ⟨rfl, rfl, rfl⟩ := hcs
    obtain ⟨hx, _⟩ := Prod.mk.inj hx
    subst hx
    exact ⟨[], Kd.C_nil _ _, Nat.le_refl _, fun _ hp => (by cases hp), by simp [Rows.uptoBulk]⟩
  · simp [Value.cells] at hcs
    obtain ⟨rfl, rfl, rfl⟩ := hcs
    rw [if_pos rfl] at hmm
    have hcell : ∀ i, i < len → ∃ p : α, (∃ cs : List Value, cs.length = kd.sz ∧ kd.K W p cs ∧ ∀ j u, cs[j]? = some u → W.cell? (ad.add (i * kd.sz + j)) = some u) ∧ Ok p ∧ wt p ≤ Rows.uptoBulk (D i) := fun i hi => by
      obtain ⟨cs, hc, ht⟩ := hr i (by omega)
      obtain ⟨p, hk, hok, hw⟩ := hel _ _ _ ht
      rw [hsz] at hc
      obtain ⟨_, _, hat⟩ := World.cells?_some hc
      refine ⟨p, ⟨cs, kd.K_len hk, hk, fun j u hj => ?_⟩, hok, hw⟩
      have hjl : j < kd.sz := by
        rw [← kd.K_len hk]
        exact (List.getElem?_eq_some_iff.1 hj).1
      have g := hat (i := j) hjl
      rw [Go.Deep.add_add] at g
      rw [g, ← hj]
    obtain ⟨f, hfun⟩ : ∃ f : Nat → α, ∀ i, i < len → (∃ cs : List Value, cs.length = kd.sz ∧ kd.K W (f i) cs ∧ ∀ j u, cs[j]? = some u → W.cell? (ad.add (i * kd.sz + j)) = some u) ∧ Ok (f i) ∧ wt (f i) ≤ Rows.uptoBulk (D i) :=
      ⟨fun i => if h : i < len then (hcell i h).choose else z, fun i hi => by simp only [dif_pos hi]; exact (hcell i hi).choose_spec⟩
    refine ⟨(List.range len).map f, ⟨by simp, by simp only [maxLen] at hm; omega, fun _ => ⟨ad, rfl, fun j p hj => ?_⟩⟩, hl, fun p hp => ?_, ?_⟩
    · obtain ⟨hj1, hj2⟩ := List.getElem?_eq_some_iff.1 hj
      have hjl : j < len := by simpa using hj1
      simp only [List.getElem_map, List.getElem_range] at hj2
      subst hj2
      exact (hfun j hjl).1
    · obtain ⟨i, hi, rfl⟩ := List.mem_map.1 hp
      exact (hfun i (List.mem_range.1 hi)).2.1
    · have hd : d = .slice ((List.range len).map D) ((List.range (m - len)).map fun j => D (len + j)) := congrArg Prod.fst hx
      rw [hd]
      simp only [Rows.uptoBulk]
      have := sum_bulkP wt f D (List.range len) (fun i hi => (hfun i (List.mem_range.1 hi)).2.2)
      omega
theorem size_bytes (k : ByteArray) : k.data.toList.length = k.size := by rw [Array.length_toList]; rfl
theorem lineCells {H : Type} {enc : TypeId × Value → H} {W : World} {base : Nat} {held : Bool} (fuel : Nat) (cs : List Value) (x : DataW H × List MemPlace) (h : DataW.trod enc Try.prog W base (fun _ => true) held fuel 110 cs = some x) :
    ∃ p : S110, k110.K W p cs ∧ Int64 p.f1 ∧ 2 + p.f0.size ≤ Rows.uptoBulk x.1 := by
  have c3 : Try.prog.cellsOf 3 = 1 := by kernel_rfl
  have c9 : Try.prog.cellsOf 9 = 1 := by kernel_rfl
  have c110 : Try.prog.cellsOf 110 = 2 := by kernel_rfl
  obtain ⟨y0, y1, n', hy, hlen, h0, h1⟩ := trod_struct2 Try.underlying110 h
  rw [c110] at hlen
  obtain ⟨v0, v1, rfl⟩ : ∃ v0 v1, cs = [v0, v1] := by
    match cs, hlen with
    | [v0, v1], _ => exact ⟨v0, v1, rfl⟩
  simp only [c3, c9] at h0 h1
  obtain ⟨k0, e0, x0, w0⟩ := DataW.trod_string Try.underlying9 h0
  obtain ⟨k1, e1, x1, w1⟩ := DataW.trod_int Try.underlying3 h1
  simp at e0 e1
  subst e0
  subst e1
  refine ⟨⟨k0, k1⟩, k110_mk W ⟨k0, k1⟩, int64_of w1, ?_⟩
  rw [hy, x0, x1]
  simp only [Rows.uptoBulk, Rows.uptoBulkAll]
  have := size_bytes k0
  omega
theorem linesArg {H : Type} {enc : TypeId × Value → H} {W : World} {base : Nat} {held : Bool} {a : Option Addr} {len cap : Nat} {d : DataW H} {ps : List MemPlace}
    (h : DataW.Trod enc Try.prog W base (fun _ => true) held 38 (.slice a len cap) d ps) : ∃ l : List S110, Kd.C k110 W a len l ∧ len ≤ cap ∧ LinOk l ∧ sumN l + 1 ≤ Rows.uptoBulk d :=
  rowArg k110 ⟨⟨#[]⟩, 0⟩ (fun p => Int64 p.f1) (fun p => 2 + p.f0.size) Try.underlying38 (by kernel_rfl) lineCells h
theorem slice_of {H : Type} {enc : TypeId × Value → H} {W : World} {base : Nat} {held : Bool} {sl e : TypeId} {fuel : Nat} {v : Value} {x : DataW H × List MemPlace} (hu : Try.prog.underlying sl = some (.slice e)) (h : DataW.trod enc Try.prog W base (fun _ => true) held fuel sl [v] = some x) :
    ∃ a len cap, v = .slice a len cap ∧ DataW.Trod enc Try.prog W base (fun _ => true) held sl (.slice a len cap) x.1 x.2 := by
  obtain ⟨a, len, cap, rfl⟩ : ∃ a len cap, v = .slice a len cap := by
    rcases open_slice hu h with ⟨hcs, _⟩ | ⟨ad, l, c, _, _, _, _, hcs, _⟩
    · simp at hcs; exact ⟨_, _, _, hcs⟩
    · simp at hcs; exact ⟨_, _, _, hcs⟩
  exact ⟨a, len, cap, rfl, fuel, h⟩
theorem reqCells {H : Type} {enc : TypeId × Value → H} {W : World} {base : Nat} {held : Bool} (fuel : Nat) (cs : List Value) (x : DataW H × List MemPlace) (h : DataW.trod enc Try.prog W base (fun _ => true) held fuel 40 cs = some x) :
    ∃ (q : S40) (A : Option Addr) (c : Nat), cs = [.string q.f0, .int .i64 q.f1, .slice A q.f2.length c, .string q.f3, .int .i64 q.f4, .int .i64 q.f5] ∧ q.f2.length ≤ c ∧ Kd.C k110 W A q.f2.length q.f2 ∧ ReqOk q ∧ 7 + sumQ q ≤ Rows.uptoBulk x.1 := by
  have c3 : Try.prog.cellsOf 3 = 1 := by kernel_rfl
  have c9 : Try.prog.cellsOf 9 = 1 := by kernel_rfl
  have c38 : Try.prog.cellsOf 38 = 1 := by kernel_rfl
  have c40 : Try.prog.cellsOf 40 = 6 := by kernel_rfl
  obtain ⟨y0, y1, y2, y3, y4, y5, n, hx, hlen, h0, h1, h2, h3, h4, h5⟩ := trod_struct6 Try.underlying40 h
  rw [c40] at hlen
  obtain ⟨v0, v1, v2, v3, v4, v5, rfl⟩ : ∃ v0 v1 v2 v3 v4 v5, cs = [v0, v1, v2, v3, v4, v5] := by
    match cs, hlen with
    | [v0, v1, v2, v3, v4, v5], _ => exact ⟨v0, v1, v2, v3, v4, v5, rfl⟩
  simp only [c3, c9, c38] at h0 h1 h2 h3 h4 h5
  have h2' : DataW.trod enc Try.prog W base (fun _ => true) held n 38 [v2] = some y2 := h2
  obtain ⟨k0, e0, x0, _⟩ := DataW.trod_string Try.underlying9 h0
  obtain ⟨k1, e1, x1, w1⟩ := DataW.trod_int Try.underlying3 h1
  obtain ⟨k3, e3, x3, _⟩ := DataW.trod_string Try.underlying9 h3
  obtain ⟨k4, e4, x4, w4⟩ := DataW.trod_int Try.underlying3 h4
  obtain ⟨k5, e5, x5, w5⟩ := DataW.trod_int Try.underlying3 h5
  simp at e0 e1 e3 e4 e5
  subst e0 e1 e3 e4 e5
  obtain ⟨a, len, cap, rfl, hT⟩ := slice_of Try.underlying38 h2'
  obtain ⟨l, hC, hl, hlo, hb⟩ := linesArg hT
  obtain rfl : l.length = len := Kd.C_len hC
  refine ⟨⟨k0, k1, l, k3, k4, k5⟩, a, cap, rfl, hl, hC, ⟨int64_of w1, hlo, int64_of w4, int64_of w5⟩, ?_⟩
  rw [hx, x0, x1, x3, x4, x5]
  simp only [Rows.uptoBulk, Rows.uptoBulkAll, sumQ]
  have := size_bytes k0
  have := size_bytes k3
  omega
theorem heldCells {H : Type} {enc : TypeId × Value → H} {W : World} {base : Nat} {held : Bool} (fuel : Nat) (cs : List Value) (x : DataW H × List MemPlace) (h : DataW.trod enc Try.prog W base (fun _ => true) held fuel 121 cs = some x) :
    ∃ p : S121, k121.K W p cs ∧ HeldOk p ∧ 3 + p.f0.size + sumN p.f1 ≤ Rows.uptoBulk x.1 := by
  have c3 : Try.prog.cellsOf 3 = 1 := by kernel_rfl
  have c9 : Try.prog.cellsOf 9 = 1 := by kernel_rfl
  have c38 : Try.prog.cellsOf 38 = 1 := by kernel_rfl
  have c121 : Try.prog.cellsOf 121 = 3 := by kernel_rfl
  obtain ⟨y0, y1, y2, n, hx, hlen, h0, h1, h2⟩ := trod_struct3 Try.underlying121 h
  rw [c121] at hlen
  obtain ⟨v0, v1, v2, rfl⟩ := list3 hlen
  simp only [c3, c9, c38] at h0 h1 h2
  have h1' : DataW.trod enc Try.prog W base (fun _ => true) held n 38 [v1] = some y1 := h1
  obtain ⟨k0, e0, x0, _⟩ := DataW.trod_string Try.underlying9 h0
  obtain ⟨k2, e2, x2, w2⟩ := DataW.trod_int Try.underlying3 h2
  simp at e0 e2
  subst e0 e2
  obtain ⟨a, len, cap, rfl, hT⟩ := slice_of Try.underlying38 h1'
  obtain ⟨l, hC, hl, hlo, hb⟩ := linesArg hT
  obtain rfl : l.length = len := Kd.C_len hC
  refine ⟨⟨k0, l, k2⟩, k121_mk W ⟨k0, l, k2⟩ hl hC, ⟨hlo, int64_of w2⟩, ?_⟩
  rw [hx, x0, x2]
  simp only [Rows.uptoBulk, Rows.uptoBulkAll]
  have := size_bytes k0
  omega
theorem doneCells {H : Type} {enc : TypeId × Value → H} {W : World} {base : Nat} {held : Bool} (fuel : Nat) (cs : List Value) (x : DataW H × List MemPlace) (h : DataW.trod enc Try.prog W base (fun _ => true) held fuel 123 cs = some x) :
    ∃ p : S123, k123.K W p cs ∧ DoneOk p ∧ 7 + sumQ p.f0 ≤ Rows.uptoBulk x.1 := by
  have c3 : Try.prog.cellsOf 3 = 1 := by kernel_rfl
  have c40 : Try.prog.cellsOf 40 = 6 := by kernel_rfl
  have c123 : Try.prog.cellsOf 123 = 7 := by kernel_rfl
  obtain ⟨y0, y1, n, hx, hlen, h0, h1⟩ := trod_struct2 Try.underlying123 h
  rw [c123] at hlen
  obtain ⟨v0, v1, v2, v3, v4, v5, v6, rfl⟩ : ∃ v0 v1 v2 v3 v4 v5 v6, cs = [v0, v1, v2, v3, v4, v5, v6] := by
    match cs, hlen with
    | [v0, v1, v2, v3, v4, v5, v6], _ => exact ⟨v0, v1, v2, v3, v4, v5, v6, rfl⟩
  simp only [c3, c40] at h0 h1
  have h0' : DataW.trod enc Try.prog W base (fun _ => true) held n 40 [v0, v1, v2, v3, v4, v5] = some y0 := h0
  have h1' : DataW.trod enc Try.prog W base (fun _ => true) held n 3 [v6] = some y1 := h1
  obtain ⟨k1, e1, x1, w1⟩ := DataW.trod_int Try.underlying3 h1'
  obtain ⟨q, A, c, hcs, hc, hC, hok, hb⟩ := reqCells _ _ _ h0'
  simp at e1
  subst e1
  simp only [List.cons.injEq, and_true] at hcs
  obtain ⟨rfl, rfl, rfl, rfl, rfl, rfl⟩ := hcs
  refine ⟨⟨q, k1⟩, k123_mk W ⟨q, k1⟩ hc hC, ⟨hok, int64_of w1⟩, ?_⟩
  rw [hx, x1]
  simp only [Rows.uptoBulk, Rows.uptoBulkAll]
  omega
theorem levelCells {H : Type} {enc : TypeId × Value → H} {W : World} {base : Nat} {held : Bool} (fuel : Nat) (cs : List Value) (x : DataW H × List MemPlace) (h : DataW.trod enc Try.prog W base (fun _ => true) held fuel 28 cs = some x) :
    ∃ p : S28, k28.K W p cs ∧ (Int64 p.f1 ∧ Int64 p.f2) ∧ 3 + p.f0.size ≤ Rows.uptoBulk x.1 := by
  have c3 : Try.prog.cellsOf 3 = 1 := by kernel_rfl
  have c9 : Try.prog.cellsOf 9 = 1 := by kernel_rfl
  have c28 : Try.prog.cellsOf 28 = 3 := by kernel_rfl
  obtain ⟨y0, y1, y2, n, hx, hlen, h0, h1, h2⟩ := trod_struct3 Try.underlying28 h
  rw [c28] at hlen
  obtain ⟨v0, v1, v2, rfl⟩ := list3 hlen
  simp only [c3, c9] at h0 h1 h2
  obtain ⟨k0, e0, x0, _⟩ := DataW.trod_string Try.underlying9 h0
  obtain ⟨k1, e1, x1, w1⟩ := DataW.trod_int Try.underlying3 h1
  obtain ⟨k2, e2, x2, w2⟩ := DataW.trod_int Try.underlying3 h2
  simp at e0 e1 e2
  subst e0 e1 e2
  refine ⟨⟨k0, k1, k2⟩, k28_mk W ⟨k0, k1, k2⟩, ⟨int64_of w1, int64_of w2⟩, ?_⟩
  rw [hx, x0, x1, x2]
  simp only [Rows.uptoBulk, Rows.uptoBulkAll]
  have := size_bytes k0
  omega
def sumHs (l : List S121) : Nat := (l.map fun p => 3 + p.f0.size + sumN p.f1).sum
def sumDs (l : List S123) : Nat := (l.map fun p => 7 + sumQ p.f0).sum
def sumS (x : StD) : Nat := sumL x.f3 + sumHs x.f4 + sumDs x.f5
theorem requestArg {H : Type} {enc : TypeId × Value → H} {W : World} {base b0 : Nat} {r : Reach} {held : Bool} {v : Value} {d : DataW H} {ps : List MemPlace} (hv : Value.okWide Try.prog W r b0 40 v)
    (h : DataW.Trod enc Try.prog W base (fun _ => true) held 40 v d ps) : ∃ (q : S40) (A : Option Addr) (c : Nat), v = .agg #[.string q.f0, .int .i64 q.f1, .slice A q.f2.length c, .string q.f3, .int .i64 q.f4, .int .i64 q.f5] ∧ Kd.C k110 W A q.f2.length q.f2 ∧ q.f2.length ≤ c ∧ ReqOk q ∧ 7 + sumQ q ≤ Rows.uptoBulk d := by
  obtain ⟨cs, rfl, hsz⟩ := okWide_struct Try.underlying40 hv
  obtain ⟨fuel, hf⟩ := h
  obtain ⟨q, A, c, hcs, hc, hC, hok, hb⟩ := reqCells _ _ _ hf
  refine ⟨q, A, c, ?_, hC, hc, hok, hb⟩
  have hcs : cs.toList = _ := hcs
  rw [← hcs]
theorem stateArg {H : Type} {enc : TypeId × Value → H} {W : World} {base b0 : Nat} {r : Reach} {held : Bool} {v : Value} {d : DataW H} {ps : List MemPlace} (hv : Value.okWide Try.prog W r b0 58 v)
    (h : DataW.Trod enc Try.prog W base (fun _ => true) held 58 v d ps) : ∃ (x : StD) (Al : Option Addr) (cl : Nat) (Ah : Option Addr) (ch : Nat) (Ad : Option Addr) (cd : Nat), v = .agg #[.int .i64 x.f0, .int .i64 x.f1, .int .i64 x.f2, .slice Al x.f3.length cl, .slice Ah x.f4.length ch, .slice Ad x.f5.length cd] ∧
      (Kd.C k28 W Al x.f3.length x.f3 ∧ x.f3.length ≤ cl) ∧ (Kd.C k121 W Ah x.f4.length x.f4 ∧ x.f4.length ≤ ch) ∧ (Kd.C k123 W Ad x.f5.length x.f5 ∧ x.f5.length ≤ cd) ∧ (Int64 x.f0 ∧ Int64 x.f1 ∧ Int64 x.f2 ∧ LevOk x.f3 ∧ HeldsOk x.f4 ∧ DonesOk x.f5) ∧ 7 + sumS x ≤ Rows.uptoBulk d := by
  have c3 : Try.prog.cellsOf 3 = 1 := by kernel_rfl
  have c23 : Try.prog.cellsOf 23 = 1 := by kernel_rfl
  have c55 : Try.prog.cellsOf 55 = 1 := by kernel_rfl
  have c56 : Try.prog.cellsOf 56 = 1 := by kernel_rfl
  have c58 : Try.prog.cellsOf 58 = 6 := by kernel_rfl
  obtain ⟨cs, rfl, hsz⟩ := okWide_struct Try.underlying58 hv
  obtain ⟨fuel, hf⟩ := h
  obtain ⟨y0, y1, y2, y3, y4, y5, n, hx, hlen, h0, h1, h2, h3, h4, h5⟩ := trod_struct6 Try.underlying58 hf
  obtain ⟨cs⟩ := cs
  have hlen : cs.length = 6 := by rw [← c58]; exact hlen
  obtain ⟨v0, v1, v2, v3, v4, v5, rfl⟩ : ∃ v0 v1 v2 v3 v4 v5, cs = [v0, v1, v2, v3, v4, v5] := by
    match cs, hlen with
    | [v0, v1, v2, v3, v4, v5], _ => exact ⟨v0, v1, v2, v3, v4, v5, rfl⟩
  simp only [c3, c23, c55, c56] at h0 h1 h2 h3 h4 h5
  have h0' : DataW.trod enc Try.prog W base (fun _ => true) held n 3 [v0] = some y0 := h0
  have h1' : DataW.trod enc Try.prog W base (fun _ => true) held n 3 [v1] = some y1 := h1
  have h2' : DataW.trod enc Try.prog W base (fun _ => true) held n 3 [v2] = some y2 := h2
  have h3' : DataW.trod enc Try.prog W base (fun _ => true) held n 23 [v3] = some y3 := h3
  have h4' : DataW.trod enc Try.prog W base (fun _ => true) held n 55 [v4] = some y4 := h4
  have h5' : DataW.trod enc Try.prog W base (fun _ => true) held n 56 [v5] = some y5 := h5
  obtain ⟨k0, e0, x0, w0⟩ := DataW.trod_int Try.underlying3 h0'
  obtain ⟨k1, e1, x1, w1⟩ := DataW.trod_int Try.underlying3 h1'
  obtain ⟨k2, e2, x2, w2⟩ := DataW.trod_int Try.underlying3 h2'
  simp at e0 e1 e2
  subst e0 e1 e2
  obtain ⟨a3, n3, c3', rfl, hT3⟩ := slice_of Try.underlying23 h3'
  obtain ⟨a4, n4, c4', rfl, hT4⟩ := slice_of Try.underlying55 h4'
  obtain ⟨a5, n5, c5', rfl, hT5⟩ := slice_of Try.underlying56 h5'
  obtain ⟨l3, hC3, hl3, ho3, hb3⟩ := rowArg k28 ⟨⟨#[]⟩, 0, 0⟩ (fun p => Int64 p.f1 ∧ Int64 p.f2) (fun p => 3 + p.f0.size) Try.underlying23 (by kernel_rfl) levelCells hT3
  obtain ⟨l4, hC4, hl4, ho4, hb4⟩ := rowArg k121 ⟨⟨#[]⟩, [], 0⟩ HeldOk (fun p => 3 + p.f0.size + sumN p.f1) Try.underlying55 (by kernel_rfl) heldCells hT4
  obtain ⟨l5, hC5, hl5, ho5, hb5⟩ := rowArg k123 ⟨⟨⟨#[]⟩, 0, [], ⟨#[]⟩, 0, 0⟩, 0⟩ DoneOk (fun p => 7 + sumQ p.f0) Try.underlying56 (by kernel_rfl) doneCells hT5
  obtain rfl : l3.length = n3 := Kd.C_len hC3
  obtain rfl : l4.length = n4 := Kd.C_len hC4
  obtain rfl : l5.length = n5 := Kd.C_len hC5
  refine ⟨⟨k0, k1, k2, l3, l4, l5⟩, a3, c3', a4, c4', a5, c5', rfl, ⟨hC3, hl3⟩, ⟨hC4, hl4⟩, ⟨hC5, hl5⟩, ⟨int64_of w0, int64_of w1, int64_of w2, ho3, ho4, ho5⟩, ?_⟩
  have hd : d = .agg [y0.1, y1.1, y2.1, y3.1, y4.1, y5.1] := hx
  rw [hd, x0, x1, x2]
  simp only [Rows.uptoBulk, Rows.uptoBulkAll, sumS, sumL, sumHs, sumDs]
  omega
end Go.Proofs.Ytafmoglaockepaa.Cd
end
section
namespace Go.Proofs.Ytafmoglaockepaa.Cd
open Go Go.RowKit Go.Proofs.Ytafmoglaockepaa.Num Go.Proofs.Ytafmoglaockepaa.PG Go.Proofs.YtafmoglaockepaaW.PrintWords Go.Proofs.YtafmoglaockepaaW.PrintLast Go.Proofs.YtafmoglaockepaaW.PrintMore
set_option linter.unusedVariables false
set_option linter.unusedSimpArgs false
theorem big {a N : Nat} (h : a < N) (hN : N ≤ 1000000000) : a < 9223372036854775807 := by omega
theorem rd121 {l : List S121} {i : Nat} {x : S121} (h : l[i]? = some x) : rd_T121 l (i : Int) = x := by
  unfold rd_T121
  rw [Int.toNat_natCast, List.getD_eq_getElem?_getD, h]
  rfl
theorem rd123 {l : List S123} {i : Nat} {x : S123} (h : l[i]? = some x) : rd_T123 l (i : Int) = x := by
  unfold rd_T123
  rw [Int.toNat_natCast, List.getD_eq_getElem?_getD, h]
  rfl
theorem rd28 {l : List S28} {i : Nat} {x : S28} (h : l[i]? = some x) : rd_T28 l (i : Int) = x := by
  unfold rd_T28
  rw [Int.toNat_natCast, List.getD_eq_getElem?_getD, h]
  rfl
theorem wadd (a b : Nat) (h : a + b < 9223372036854775807) : wrap64 ((a : Int) + (b : Int)) = ((a + b : Nat) : Int) := by unfold wrap64; omega
theorem wadd7 (a : Nat) (h : a + 7 < 9223372036854775807) : wrap64 ((a : Int) + 7) = ((a + 7 : Nat) : Int) := by unfold wrap64; omega
theorem wadd3 (a : Nat) (h : a + 3 < 9223372036854775807) : wrap64 ((a : Int) + 3) = ((a + 3 : Nat) : Int) := by unfold wrap64; omega
theorem wadd2 (a : Nat) (h : a + 2 < 9223372036854775807) : wrap64 ((a : Int) + 2) = ((a + 2 : Nat) : Int) := by unfold wrap64; omega
theorem sumL_cons (x : S28) (l : List S28) : sumL (x :: l) = 3 + x.f0.size + sumL l := by simp [sumL]
theorem sumHs_cons (x : S121) (l : List S121) : sumHs (x :: l) = 3 + x.f0.size + sumN x.f1 + sumHs l := by simp [sumHs]
theorem sumDs_cons (x : S123) (l : List S123) : sumDs (x :: l) = 7 + sumQ x.f0 + sumDs l := by simp [sumDs]
theorem sumDs_mem : ∀ (l : List S123) (x : S123), x ∈ l → 7 + sumQ x.f0 ≤ sumDs l
  | y :: l, x, h => by
    rw [sumDs_cons]
    rcases List.mem_cons.1 h with rfl | h
    · omega
    · have := sumDs_mem l x h
      omega
theorem sumHs_count : ∀ l : List S121, 3 * l.length ≤ sumHs l
  | [] => by simp [sumHs]
  | x :: l => by
    have := sumHs_count l
    rw [sumHs_cons, List.length_cons]
    omega
theorem sumDs_count : ∀ l : List S123, 7 * l.length ≤ sumDs l
  | [] => by simp [sumDs]
  | x :: l => by
    have := sumDs_count l
    rw [sumDs_cons, List.length_cons]
    omega
theorem bulk_l3 (N : Nat) (HN : Aside0 (N ≤ 1000000000)) (l5 : List S123) (hl5 : l5.length < N) (z0 z1 z2 : Int) (z3 : List S28) (z4 : List S121) (M : Nat) (hM : ∀ x ∈ l5, x.f0.f2.length ≤ M) : ∀ d i k s : Nat, d + M + 2 ≤ k → i + d = l5.length → s + sumDs (l5.drop i) < N →
    larderlaw09_bulk.l3 k (s : Int) (i : Int) z0 z1 z2 z3 z4 l5 = some ((s + sumDs (l5.drop i) : Nat) : Int)
  | 0, i, k, s, hk, h, hb => by
    obtain ⟨k, rfl⟩ : ∃ q, k = q + 1 := ⟨k - 1, by omega⟩
    unfold larderlaw09_bulk.l3
    rw [if_neg (by omega), List.drop_of_length_le (by omega)]
    simp [sumDs]
  | d + 1, i, k, s, hk, h, hb => by
    obtain ⟨k, rfl⟩ : ∃ q, k = q + 1 := ⟨k - 1, by omega⟩
    obtain ⟨x, hx⟩ : ∃ x, l5[i]? = some x := ⟨_, List.getElem?_eq_getElem (by omega)⟩
    have hm := hM x (List.mem_of_getElem? hx)
    rw [drop_at hx, sumDs_cons] at hb
    have ih0 := fun h => bulk_l3 N HN l5 hl5 z0 z1 z2 z3 z4 M hM d (i + 1) k (s + 7 + sumQ x.f0) (by omega) (by omega) h
    have hw := fun h => weight_ok x.f0 h k (by omega)
    unfold larderlaw09_bulk.l3
    rw [if_pos (by omega), if_pos (by omega), rd123 hx, drop_at hx, sumDs_cons, w64n (big (by omega) HN.out)]
    generalize sumQ x.f0 = q at *
    generalize sumDs (l5.drop (i + 1)) = r at *
    rw [hw (big (by omega) HN.out), Option.bind_some]
    have b1 := big (N := N) (show s + 7 < N by omega) HN.out
    have b2 := big (N := N) (show s + 7 + q < N by omega) HN.out
    have h9 := ih0 (by omega)
    rw [wadd7 s b1, wadd (s + 7) q b2, h9]
    clear b1 b2 h9
    congr 2
    omega
theorem bulk_l12 (N : Nat) (HN : Aside0 (N ≤ 1000000000)) (l4 : List S121) (l5 : List S123) (z0 z1 z2 : Int) (z3 : List S28) (M : Nat) (hM : ∀ x ∈ l5, x.f0.f2.length ≤ M) (hl4 : l4.length < N) (hl5 : l5.length < N) : ∀ d i k s : Nat, sumHs (l4.drop i) + d + l5.length + M + 4 ≤ k → i + d = l4.length → s + sumHs (l4.drop i) + sumDs l5 < N →
    larderlaw09_bulk.l1 k (s : Int) (i : Int) z0 z1 z2 z3 l4 l5 = some ((s + sumHs (l4.drop i) + sumDs l5 : Nat) : Int)
  | 0, i, k, s, hk, h, hb => by
    obtain ⟨k, rfl⟩ : ∃ q, k = q + 1 := ⟨k - 1, by omega⟩
    have hd : l4.drop i = [] := List.drop_of_length_le (by omega)
    rw [hd] at hk hb
    have := bulk_l3 N HN l5 hl5 z0 z1 z2 z3 l4 M hM l5.length 0 k s (by omega) (by omega) (by rw [List.drop_zero]; simp [sumHs] at hb; omega)
    rw [List.drop_zero] at this
    unfold larderlaw09_bulk.l1
    rw [if_neg (by omega), hd]
    have e0 : ((0 : Nat) : Int) = 0 := rfl
    rw [e0] at this
    rw [this]
    simp [sumHs]
  | d + 1, i, k, s, hk, h, hb => by
    obtain ⟨k, rfl⟩ : ∃ q, k = q + 1 := ⟨k - 1, by omega⟩
    obtain ⟨x, hx⟩ : ∃ x, l4[i]? = some x := ⟨_, List.getElem?_eq_getElem (by omega)⟩
    rw [drop_at hx, sumHs_cons] at hb hk
    have hxl : x.f1.length < N := by
      have := sumN_count x.f1
      omega
    have hin : ∀ dj j k' t : Nat, dj + 1 + (sumHs (l4.drop (i + 1)) + d + l5.length + M + 4) ≤ k' → j + dj = x.f1.length → t + sumN (x.f1.drop j) + sumHs (l4.drop (i + 1)) + sumDs l5 < N →
        larderlaw09_bulk.l2 k' (t : Int) (i : Int) (j : Int) z0 z1 z2 z3 l4 l5 = some ((t + sumN (x.f1.drop j) + sumHs (l4.drop (i + 1)) + sumDs l5 : Nat) : Int) := by
      intro dj
      induction dj with
      | zero =>
        intro j k' t hk' hj hb'
        obtain ⟨k', rfl⟩ : ∃ q, k' = q + 1 := ⟨k' - 1, by omega⟩
        have hd : x.f1.drop j = [] := List.drop_of_length_le (by omega)
        rw [hd] at hb'
        have hs0 : sumN ([] : List S110) = 0 := by simp [sumN]
        have ih := bulk_l12 N HN l4 l5 z0 z1 z2 z3 M hM hl4 hl5 d (i + 1) k' t (by omega) (by omega) (by omega)
        unfold larderlaw09_bulk.l2
        rw [if_pos (by omega), if_pos (by omega), rd121 hx, if_neg (by omega), w64n (big (by omega) HN.out), ih, hd, hs0]
        rfl
      | succ dj ihj =>
        intro j k' t hk' hj hb'
        obtain ⟨k', rfl⟩ : ∃ q, k' = q + 1 := ⟨k' - 1, by omega⟩
        obtain ⟨y, hy⟩ : ∃ y, x.f1[j]? = some y := ⟨_, List.getElem?_eq_getElem (by omega)⟩
        rw [drop_at hy, sumN_cons] at hb'
        have ih0 := fun h => ihj (j + 1) k' (t + 2 + y.f0.size) (by omega) (by omega) h
        have hjlt : j < 9223372036854775807 := big (N := N) (by omega) HN.out
        unfold larderlaw09_bulk.l2
        rw [if_pos (by omega), if_pos (by omega), rd121 hx, if_pos (by omega), if_pos (by omega), rd110 hy, w64n hjlt, drop_at hy, sumN_cons]
        generalize y.f0.size = q at *
        generalize sumN (x.f1.drop (j + 1)) = r at *
        generalize sumHs (l4.drop (i + 1)) = S at *
        generalize sumDs l5 = D at *
        have b1 := big (N := N) (show t + 2 < N by omega) HN.out
        have b2 := big (N := N) (show t + 2 + q < N by omega) HN.out
        have h9 := ih0 (by omega)
        rw [wadd2 t b1, wadd (t + 2) q b2, h9]
        clear b1 b2 h9
        congr 2
        omega
    have hcN := sumN_count x.f1
    have h0 := fun h1 h2 => hin x.f1.length 0 k (s + 3 + x.f0.size) h1 (by omega) h2
    clear hin
    rw [List.drop_zero] at h0
    have e0 : ((0 : Nat) : Int) = 0 := rfl
    rw [e0] at h0
    unfold larderlaw09_bulk.l1
    rw [if_pos (by omega), if_pos (by omega), rd121 hx, drop_at hx, sumHs_cons]
    generalize x.f0.size = q at *
    generalize sumN x.f1 = r at *
    generalize sumHs (l4.drop (i + 1)) = S at *
    generalize sumDs l5 = D at *
    have b1 := big (N := N) (show s + 3 < N by omega) HN.out
    have b2 := big (N := N) (show s + 3 + q < N by omega) HN.out
    have h9 := h0 (by omega) (by omega)
    rw [wadd3 s b1, wadd (s + 3) q b2, h9]
    clear b1 b2 h9
    congr 2
    omega
theorem bulk_l0 (N : Nat) (HN : Aside0 (N ≤ 1000000000)) (l3 : List S28) (l4 : List S121) (l5 : List S123) (z0 z1 z2 : Int) (M : Nat) (hM : ∀ x ∈ l5, x.f0.f2.length ≤ M) (hl3 : l3.length < N) (hl4 : l4.length < N) (hl5 : l5.length < N) : ∀ d i k s : Nat, d + 1 + (sumHs l4 + l4.length + l5.length + M + 4) ≤ k → i + d = l3.length → s + sumL (l3.drop i) + sumHs l4 + sumDs l5 < N →
    larderlaw09_bulk.l0 k (s : Int) (i : Int) z0 z1 z2 l3 l4 l5 = some ((s + sumL (l3.drop i) + sumHs l4 + sumDs l5 : Nat) : Int)
  | 0, i, k, s, hk, h, hb => by
    obtain ⟨k, rfl⟩ : ∃ q, k = q + 1 := ⟨k - 1, by omega⟩
    have hd : l3.drop i = [] := List.drop_of_length_le (by omega)
    have hs0 : sumL ([] : List S28) = 0 := by simp [sumL]
    rw [hd, hs0] at hb
    have := bulk_l12 N HN l4 l5 z0 z1 z2 l3 M hM hl4 hl5 l4.length 0 k s (by rw [List.drop_zero]; omega) (by omega) (by rw [List.drop_zero]; omega)
    rw [List.drop_zero] at this
    have e0 : ((0 : Nat) : Int) = 0 := rfl
    rw [e0] at this
    unfold larderlaw09_bulk.l0
    rw [if_neg (by omega), this, hd, hs0, Nat.add_zero]
  | d + 1, i, k, s, hk, h, hb => by
    obtain ⟨k, rfl⟩ : ∃ q, k = q + 1 := ⟨k - 1, by omega⟩
    obtain ⟨x, hx⟩ : ∃ x, l3[i]? = some x := ⟨_, List.getElem?_eq_getElem (by omega)⟩
    rw [drop_at hx, sumL_cons] at hb
    have ih0 := fun h => bulk_l0 N HN l3 l4 l5 z0 z1 z2 M hM hl3 hl4 hl5 d (i + 1) k (s + 3 + x.f0.size) (by omega) (by omega) h
    unfold larderlaw09_bulk.l0
    rw [if_pos (by omega), if_pos (by omega), rd28 hx, w64n (big (by omega) HN.out), drop_at hx, sumL_cons]
    generalize x.f0.size = q at *
    generalize sumL (l3.drop (i + 1)) = r at *
    generalize sumHs l4 = S at *
    generalize sumDs l5 = D at *
    have b1 := big (N := N) (show s + 3 < N by omega) HN.out
    have b2 := big (N := N) (show s + 3 + q < N by omega) HN.out
    have h9 := ih0 (by omega)
    rw [wadd3 s b1, wadd (s + 3) q b2, h9]
    clear b1 b2 h9
    congr 2
    omega
theorem bulk_ok (x : StD) (hs : sumS x < 1000000000) : ∃ k, larderlaw09_bulk.f k x.f0 x.f1 x.f2 x.f3 x.f4 x.f5 = some (sumS x : Int) := by
  have HS := Aside0.mk (show sumS x + 1 ≤ 1000000000 from hs)
  clear hs
  have h3 := sumL_count x.f3
  have h4 := sumHs_count x.f4
  have h5 := sumDs_count x.f5
  have hq : sumS x = sumL x.f3 + sumHs x.f4 + sumDs x.f5 := rfl
  have hM : ∀ y ∈ x.f5, y.f0.f2.length ≤ sumDs x.f5 := fun y hy => by
    have h1 := sumDs_mem _ y hy
    have h2 := sumN_count y.f0.f2
    unfold sumQ at h1
    omega
  have := bulk_l0 (sumS x + 1) HS x.f3 x.f4 x.f5 x.f0 x.f1 x.f2 (sumDs x.f5) hM (by omega) (by omega) (by omega) x.f3.length 0 _ 0 (Nat.le_refl _) (by omega) (by rw [List.drop_zero]; omega)
  rw [List.drop_zero] at this
  have e0 : ((0 : Nat) : Int) = 0 := rfl
  rw [e0] at this
  refine ⟨x.f3.length + 1 + (sumHs x.f4 + x.f4.length + x.f5.length + sumDs x.f5 + 4), ?_⟩
  unfold larderlaw09_bulk.f
  rw [this, hq, Nat.zero_add]
theorem bulkHs_sum : ∀ l : List S121, bulkHs l ≤ 15 * sumHs l
  | [] => by simp [bulkHs, sumHs]
  | x :: l => by
    have := bulkHs_sum l
    have := bulkN_sum x.f1
    rw [bulkHs_cons, sumHs_cons]
    unfold bulkH
    omega
theorem bulkDs_sum : ∀ l : List S123, bulkDs l ≤ 15 * sumDs l
  | [] => by simp [bulkDs, sumDs]
  | x :: l => by
    have := bulkDs_sum l
    have := bulkQ_sum x.f0
    rw [bulkDs_cons, sumDs_cons]
    unfold bulkD
    omega
theorem bulkS_sum (x : StD) : bulkS x ≤ 90 + 15 * sumS x := by
  have := bulkL_sum x.f3
  have := bulkHs_sum x.f4
  have := bulkDs_sum x.f5
  unfold bulkS sumS
  omega
end Go.Proofs.Ytafmoglaockepaa.Cd
end
section
namespace Go.Proofs.Ytafmoglaockepaa.Cd
open Go Go.RowKit Go.Proofs.Ytafmoglaockepaa.Mine Go.Proofs.Ytafmoglaockepaa.Num Go.Proofs.Ytafmoglaockepaa.PG Go.Proofs.YtafmoglaockepaaW.PrintWords Go.Proofs.YtafmoglaockepaaW.PrintLast Go.Proofs.YtafmoglaockepaaW.PrintMore
set_option linter.unusedVariables false
set_option linter.unusedSimpArgs false
set_option maxHeartbeats 4000000
set_option maxRecDepth 100000
structure Args3 (bo : Nat) (q : S40) (Aq : Option Addr) (cq : Nat) (p : RepD) (Ap : Option Addr) (cp : Nat) (s : StD) (Asl : Option Addr) (csl : Nat) (Ash : Option Addr) (csh : Nat) (Asd : Option Addr) (csd : Nat) (W w : World) : Prop where
  rq : Rt 40 bo [.string q.f0, .int .i64 q.f1, .slice Aq q.f2.length cq, .string q.f3, .int .i64 q.f4, .int .i64 q.f5] w
  rp : Rt 25 (bo + 1) [.string p.id, .int .i64 p.er, .int .i64 p.line, .slice Ap p.levs.length cp, .int .i64 p.now] w
  rs : Rt 58 (bo + 1 + 1) [.int .i64 s.f0, .int .i64 s.f1, .int .i64 s.f2, .slice Asl s.f3.length csl, .slice Ash s.f4.length csh, .slice Asd s.f5.length csd] w
  b : Below bo W w
  h0 : bo = W.heap.size
theorem Args3.below {bo : Nat} {q : S40} {Aq : Option Addr} {cq : Nat} {p : RepD} {Ap : Option Addr} {cp : Nat} {s : StD} {Asl : Option Addr} {csl : Nat} {Ash : Option Addr} {csh : Nat} {Asd : Option Addr} {csd : Nat} {W w w' : World} (h : Args3 bo q Aq cq p Ap cp s Asl csl Ash csh Asd csd W w) (hb : Below w.heap.size w w') : Args3 bo q Aq cq p Ap cp s Asl csl Ash csh Asd csd W w' :=
  ⟨h.rq.below hb, h.rp.below hb, h.rs.below hb, h.b.trans (hb.mono (Nat.le_of_lt h.rq.lt)), h.h0⟩
theorem Args3.size {bo : Nat} {q : S40} {Aq : Option Addr} {cq : Nat} {p : RepD} {Ap : Option Addr} {cp : Nat} {s : StD} {Asl : Option Addr} {csl : Nat} {Ash : Option Addr} {csh : Nat} {Asd : Option Addr} {csd : Nat} {W w : World} (h : Args3 bo q Aq cq p Ap cp s Asl csl Ash csh Asd csd W w) : bo + 1 + 1 < w.heap.size := h.rs.lt
structure Given3 (q : S40) (Aq : Option Addr) (cq : Nat) (p : RepD) (Ap : Option Addr) (cp : Nat) (s : StD) (Asl : Option Addr) (csl : Nat) (Ash : Option Addr) (csh : Nat) (Asd : Option Addr) (csd : Nat) (W : World) : Prop where
  cq : Kd.C k110 W Aq q.f2.length q.f2 ∧ q.f2.length ≤ cq
  cp : Kd.C k28 W Ap p.levs.length p.levs ∧ p.levs.length ≤ cp
  cl : Kd.C k28 W Asl s.f3.length s.f3 ∧ s.f3.length ≤ csl
  ch : Kd.C k121 W Ash s.f4.length s.f4 ∧ s.f4.length ≤ csh
  cd : Kd.C k123 W Asd s.f5.length s.f5 ∧ s.f5.length ≤ csd
  okq : ReqOk q
  okp : Int64 p.er ∧ Int64 p.line ∧ Int64 p.now ∧ LevOk p.levs
  oks : Int64 s.f0 ∧ Int64 s.f1 ∧ Int64 s.f2 ∧ LevOk s.f3 ∧ HeldsOk s.f4 ∧ DonesOk s.f5
  sz : sumQ q ≤ 1048576 ∧ p.id.size + sumL p.levs ≤ 1048576 ∧ sumS s ≤ 1048576
theorem Given3.below {q : S40} {Aq : Option Addr} {cq : Nat} {p : RepD} {Ap : Option Addr} {cp : Nat} {s : StD} {Asl : Option Addr} {csl : Nat} {Ash : Option Addr} {csh : Nat} {Asd : Option Addr} {csd : Nat} {W W' : World} (h : Given3 q Aq cq p Ap cp s Asl csl Ash csh Asd csd W) (hb : Below W.heap.size W W') : Given3 q Aq cq p Ap cp s Asl csl Ash csh Asd csd W' :=
  { h with cq := ⟨Kd.C_below h.cq.1 hb, h.cq.2⟩, cp := ⟨Kd.C_below h.cp.1 hb, h.cp.2⟩, cl := ⟨Kd.C_below h.cl.1 hb, h.cl.2⟩, ch := ⟨Kd.C_below h.ch.1 hb, h.ch.2⟩, cd := ⟨Kd.C_below h.cd.1 hb, h.cd.2⟩ }
theorem boxed3 (q : S40) (Aq : Option Addr) (cq : Nat) (p : RepD) (Ap : Option Addr) (cp : Nat) (s : StD) (Asl : Option Addr) (csl : Nat) (Ash : Option Addr) (csh : Nat) (Asd : Option Addr) (csd : Nat) (W : World) : Args3 W.heap.size q Aq cq p Ap cp s Asl csl Ash csh Asd csd W (((W.alloc (.cells #[.string q.f0, .int .i64 q.f1, .slice Aq q.f2.length cq, .string q.f3, .int .i64 q.f4, .int .i64 q.f5] 40)).alloc (.cells #[.string p.id, .int .i64 p.er, .int .i64 p.line, .slice Ap p.levs.length cp, .int .i64 p.now] 25)).alloc (.cells #[.int .i64 s.f0, .int .i64 s.f1, .int .i64 s.f2, .slice Asl s.f3.length csl, .slice Ash s.f4.length csh, .slice Asd s.f5.length csd] 58)) := by
  have s1 : (W.alloc (.cells #[.string q.f0, .int .i64 q.f1, .slice Aq q.f2.length cq, .string q.f3, .int .i64 q.f4, .int .i64 q.f5] 40)).heap.size = W.heap.size + 1 := Array.size_push ..
  have b1 : Below W.heap.size W (W.alloc (.cells #[.string q.f0, .int .i64 q.f1, .slice Aq q.f2.length cq, .string q.f3, .int .i64 q.f4, .int .i64 q.f5] 40)) := below_alloc (Below.refl _ _) _
  have r1 : Rt 40 W.heap.size [.string q.f0, .int .i64 q.f1, .slice Aq q.f2.length cq, .string q.f3, .int .i64 q.f4, .int .i64 q.f5] (W.alloc (.cells #[.string q.f0, .int .i64 q.f1, .slice Aq q.f2.length cq, .string q.f3, .int .i64 q.f4, .int .i64 q.f5] 40)) := heap_alloc_new W _
  generalize W.alloc (.cells #[.string q.f0, .int .i64 q.f1, .slice Aq q.f2.length cq, .string q.f3, .int .i64 q.f4, .int .i64 q.f5] 40) = w1 at *
  have s2 : (w1.alloc (.cells #[.string p.id, .int .i64 p.er, .int .i64 p.line, .slice Ap p.levs.length cp, .int .i64 p.now] 25)).heap.size = w1.heap.size + 1 := Array.size_push ..
  have b2 : Below w1.heap.size w1 (w1.alloc (.cells #[.string p.id, .int .i64 p.er, .int .i64 p.line, .slice Ap p.levs.length cp, .int .i64 p.now] 25)) := below_alloc (Below.refl _ _) _
  have r2 : Rt 25 w1.heap.size [.string p.id, .int .i64 p.er, .int .i64 p.line, .slice Ap p.levs.length cp, .int .i64 p.now] (w1.alloc (.cells #[.string p.id, .int .i64 p.er, .int .i64 p.line, .slice Ap p.levs.length cp, .int .i64 p.now] 25)) := heap_alloc_new w1 _
  have r12 := r1.below b2
  have b12 := b1.trans (b2.mono (by omega))
  rw [s1] at r2
  generalize w1.alloc (.cells #[.string p.id, .int .i64 p.er, .int .i64 p.line, .slice Ap p.levs.length cp, .int .i64 p.now] 25) = w2 at *
  have b3 : Below w2.heap.size w2 (w2.alloc (.cells #[.int .i64 s.f0, .int .i64 s.f1, .int .i64 s.f2, .slice Asl s.f3.length csl, .slice Ash s.f4.length csh, .slice Asd s.f5.length csd] 58)) := below_alloc (Below.refl _ _) _
  have r3 : Rt 58 w2.heap.size [.int .i64 s.f0, .int .i64 s.f1, .int .i64 s.f2, .slice Asl s.f3.length csl, .slice Ash s.f4.length csh, .slice Asd s.f5.length csd] (w2.alloc (.cells #[.int .i64 s.f0, .int .i64 s.f1, .int .i64 s.f2, .slice Asl s.f3.length csl, .slice Ash s.f4.length csh, .slice Asd s.f5.length csd] 58)) := heap_alloc_new w2 _
  rw [s2, s1] at r3
  exact ⟨r12.below b3, r2.below b3, r3, b12.trans (b3.mono (by omega)), rfl⟩
end Go.Proofs.Ytafmoglaockepaa.Cd
end
section
namespace Go.Proofs.Ytafmoglaockepaa.Cd
open Go Go.RowKit Go.Proofs.Ytafmoglaockepaa.Mine Go.Proofs.Ytafmoglaockepaa.Num Go.Proofs.Ytafmoglaockepaa.PG Go.Proofs.YtafmoglaockepaaW.PrintWords Go.Proofs.YtafmoglaockepaaW.PrintLast Go.Proofs.YtafmoglaockepaaW.PrintMore
set_option linter.unusedVariables false
set_option linter.unusedSimpArgs false
set_option maxHeartbeats 4000000
set_option maxRecDepth 100000
theorem written_at (which : Int) (q : S40) (Aq : Option Addr) (cq : Nat) (p : RepD) (Ap : Option Addr) (cp : Nat) (s : StD) (Asl : Option Addr) (csl : Nat) (Ash : Option Addr) (csh : Nat) (Asd : Option Addr) (csd : Nat) (lsn : Int) (hlsn : Int64 lsn) (W : World) (hg : Given3 q Aq cq p Ap cp s Asl csl Ash csh Asd csd W) :
    Calls Try.prog 48 #[.int .i64 which, .agg #[.string q.f0, .int .i64 q.f1, .slice Aq q.f2.length cq, .string q.f3, .int .i64 q.f4, .int .i64 q.f5], .agg #[.string p.id, .int .i64 p.er, .int .i64 p.line, .slice Ap p.levs.length cp, .int .i64 p.now], .int .i64 lsn, .agg #[.int .i64 s.f0, .int .i64 s.f1, .int .i64 s.f2, .slice Asl s.f3.length csl, .slice Ash s.f4.length csh, .slice Asd s.f5.length csd]] W fun e w' => ∃ v, e = .returned (.tuple #[v, .int .i64 (putCode (wMost (Go.bits .and .i64 which 3)) (wB (Go.bits .and .i64 which 3) q p lsn s))]) ∧ (Kd.int .u8).R 5 w' W.heap.size (fun _ => True) v (putOut (wMost (Go.bits .and .i64 which 3)) (wB (Go.bits .and .i64 which 3) q p lsn s)) ∧ Below W.heap.size W w' := by
  have HG := Aside0.mk hg
  have HLSN := Aside0.mk hlsn
  have hbox := boxed3 q Aq cq p Ap cp s Asl csl Ash csh Asd csd W
  obtain ⟨bo, hbo⟩ : ∃ b, W.heap.size = b := ⟨_, rfl⟩
  rw [hbo] at hbox
  have M1 := Aside0.mk (show Args3 W.heap.size q Aq cq p Ap cp s Asl csl Ash csh Asd csd W _ from hbo ▸ hbox)
  clear hbox hg hlsn hbo bo
  have h4 := and3 which
  obtain ⟨m, hm⟩ : ∃ m, Go.bits .and .i64 which 3 = m := ⟨_, rfl⟩
  rw [hm] at h4 ⊢
  go_enter Try.func48, Try.ntmps48
  go_upto_block 0 with fail
  generalize ((W.alloc (.cells #[.string q.f0, .int .i64 q.f1, .slice Aq q.f2.length cq, .string q.f3, .int .i64 q.f4, .int .i64 q.f5] 40)).alloc (.cells #[.string p.id, .int .i64 p.er, .int .i64 p.line, .slice Ap p.levs.length cp, .int .i64 p.now] 25)).alloc (.cells #[.int .i64 s.f0, .int .i64 s.f1, .int .i64 s.f2, .slice Asl s.f3.length csl, .slice Ash s.f4.length csh, .slice Asd s.f5.length csd] 58) = w1 at *
  clear hm
  rcases h4 with rfl | rfl | rfl | rfl
  · have HPR := Aside0.mk (PutRequest_at q.f0 q.f1 Aq q.f2.length cq q.f2 q.f3 q.f4 q.f5 w1 (HG.out.below (by rw [← M1.out.h0]; exact M1.out.b)).cq.1 (HG.out.below (by rw [← M1.out.h0]; exact M1.out.b)).okq.2.1 (HG.out.below (by rw [← M1.out.h0]; exact M1.out.b)).okq.1 (HG.out.below (by rw [← M1.out.h0]; exact M1.out.b)).okq.2.2.1 (HG.out.below (by rw [← M1.out.h0]; exact M1.out.b)).okq.2.2.2 (by have := (HG.out.below (by rw [← M1.out.h0]; exact M1.out.b)).sz; have := bulkQ_sum q; unfold bulkQ at this; omega))
    rw [show encReq q.f0 q.f1 q.f2 q.f3 q.f4 q.f5 = encQ q from rfl] at HPR
    have o0 := M1.out.rq.cell 0 _ rfl
    have o1 := M1.out.rq.cell 1 _ rfl
    have o2 := M1.out.rq.cell 2 _ rfl
    have o3 := M1.out.rq.cell 3 _ rfl
    have o4 := M1.out.rq.cell 4 _ rfl
    have o5 := M1.out.rq.cell 5 _ rfl
    go_wp2_with fail
    go_at_call 21
    refine HPR.out.mono ?_
    rintro e w2 ⟨v, rfl, hR, hb⟩
    obtain ⟨m, hm⟩ : ∃ m, (putOut 4096 (81 :: encQ q)).length = m := ⟨_, rfl⟩
    have HRR := Aside0.mk (show (Kd.int .u8).R 5 w2 W.heap.size (fun _ => True) v (putOut (wMost 0) (wB 0 q p lsn s)) from Kd.R_lower hR M1.out.b.size)
    have HBB := Aside0.mk (M1.out.b.trans (hb.mono M1.out.b.size))
    obtain ⟨Av, cv, ev⟩ := Kd.R_slice hR
    rw [hm] at ev
    subst ev
    clear hR hb hm HPR
    go_wp2_with fail
    go_ret2
    exact ⟨_, rfl, HRR.out, HBB.out⟩
  · have HPR := Aside0.mk (PutReply_at p.id p.er p.line p.now Ap p.levs.length cp p.levs w1 (HG.out.below (by rw [← M1.out.h0]; exact M1.out.b)).cp.1 (HG.out.below (by rw [← M1.out.h0]; exact M1.out.b)).okp.2.2.2 (HG.out.below (by rw [← M1.out.h0]; exact M1.out.b)).okp.1 (HG.out.below (by rw [← M1.out.h0]; exact M1.out.b)).okp.2.1 (HG.out.below (by rw [← M1.out.h0]; exact M1.out.b)).okp.2.2.1 (by have := bulkL_sum p.levs; have := (HG.out.below (by rw [← M1.out.h0]; exact M1.out.b)).sz; omega))
    have o0 := M1.out.rp.cell 0 _ rfl
    have o1 := M1.out.rp.cell 1 _ rfl
    have o2 := M1.out.rp.cell 2 _ rfl
    have o3 := M1.out.rp.cell 3 _ rfl
    have o4 := M1.out.rp.cell 4 _ rfl
    go_wp2_with fail
    go_at_call 11
    refine HPR.out.mono ?_
    rintro e w2 ⟨v, rfl, hR, hb⟩
    obtain ⟨m, hm⟩ : ∃ m, (putOut 4096 (82 :: encReply p.id p.er p.line p.levs p.now)).length = m := ⟨_, rfl⟩
    have HRR := Aside0.mk (show (Kd.int .u8).R 5 w2 W.heap.size (fun _ => True) v (putOut (wMost 1) (wB 1 q p lsn s)) from Kd.R_lower hR M1.out.b.size)
    have HBB := Aside0.mk (M1.out.b.trans (hb.mono M1.out.b.size))
    obtain ⟨Av, cv, ev⟩ := Kd.R_slice hR
    rw [hm] at ev
    subst ev
    clear hR hb hm HPR
    go_wp2_with fail
    go_ret2
    exact ⟨_, rfl, HRR.out, HBB.out⟩
  · have HPR := Aside0.mk (PutRecord_at ⟨lsn, q⟩ w1 Aq cq (HG.out.below (by rw [← M1.out.h0]; exact M1.out.b)).cq.1 HLSN.out (HG.out.below (by rw [← M1.out.h0]; exact M1.out.b)).okq (by have := bulkQ_sum q; have := (HG.out.below (by rw [← M1.out.h0]; exact M1.out.b)).sz; unfold bulkC; show 20 + bulkQ q + 3000 < _; omega))
    have o0 := M1.out.rq.cell 0 _ rfl
    have o1 := M1.out.rq.cell 1 _ rfl
    have o2 := M1.out.rq.cell 2 _ rfl
    have o3 := M1.out.rq.cell 3 _ rfl
    have o4 := M1.out.rq.cell 4 _ rfl
    have o5 := M1.out.rq.cell 5 _ rfl
    go_wp2_with fail
    go_at_call 27
    refine HPR.out.mono ?_
    rintro e w2 ⟨v, rfl, hR, hb⟩
    obtain ⟨m, hm⟩ : ∃ m, (putOut 4096 (83 :: encC ⟨lsn, q⟩)).length = m := ⟨_, rfl⟩
    have HRR := Aside0.mk (show (Kd.int .u8).R 5 w2 W.heap.size (fun _ => True) v (putOut (wMost 2) (wB 2 q p lsn s)) from Kd.R_lower hR M1.out.b.size)
    have HBB := Aside0.mk (M1.out.b.trans (hb.mono M1.out.b.size))
    obtain ⟨Av, cv, ev⟩ := Kd.R_slice hR
    rw [hm] at ev
    subst ev
    clear hR hb hm HPR
    go_wp2_with fail
    go_ret2
    exact ⟨_, rfl, HRR.out, HBB.out⟩
  · have HPR := Aside0.mk (PutState_at s w1 Asl csl (HG.out.below (by rw [← M1.out.h0]; exact M1.out.b)).cl.1 Ash csh (HG.out.below (by rw [← M1.out.h0]; exact M1.out.b)).ch.1 Asd csd (HG.out.below (by rw [← M1.out.h0]; exact M1.out.b)).cd.1 (HG.out.below (by rw [← M1.out.h0]; exact M1.out.b)).oks.1 (HG.out.below (by rw [← M1.out.h0]; exact M1.out.b)).oks.2.1 (HG.out.below (by rw [← M1.out.h0]; exact M1.out.b)).oks.2.2.1 (HG.out.below (by rw [← M1.out.h0]; exact M1.out.b)).oks.2.2.2.1 (HG.out.below (by rw [← M1.out.h0]; exact M1.out.b)).oks.2.2.2.2.1 (HG.out.below (by rw [← M1.out.h0]; exact M1.out.b)).oks.2.2.2.2.2 (by have := bulkS_sum s; have := (HG.out.below (by rw [← M1.out.h0]; exact M1.out.b)).sz; omega))
    have o0 := M1.out.rs.cell 0 _ rfl
    have o1 := M1.out.rs.cell 1 _ rfl
    have o2 := M1.out.rs.cell 2 _ rfl
    have o3 := M1.out.rs.cell 3 _ rfl
    have o4 := M1.out.rs.cell 4 _ rfl
    have o5 := M1.out.rs.cell 5 _ rfl
    go_wp2_with fail
    go_at_call 34
    refine HPR.out.mono ?_
    rintro e w2 ⟨v, rfl, hR, hb⟩
    obtain ⟨m, hm⟩ : ∃ m, (putOut 131072 (84 :: encS s)).length = m := ⟨_, rfl⟩
    have HRR := Aside0.mk (show (Kd.int .u8).R 5 w2 W.heap.size (fun _ => True) v (putOut (wMost 3) (wB 3 q p lsn s)) from Kd.R_lower hR M1.out.b.size)
    have HBB := Aside0.mk (M1.out.b.trans (hb.mono M1.out.b.size))
    obtain ⟨Av, cv, ev⟩ := Kd.R_slice hR
    rw [hm] at ev
    subst ev
    clear hR hb hm HPR
    go_wp2_with fail
    go_ret2
    exact ⟨_, rfl, HRR.out, HBB.out⟩
theorem read_at (which : Int) (A : Option Addr) (c : Nat) (xs : List Int) (W : World) (hC : Kd.C (Kd.int .u8) W A xs.length xs) (hnc : xs.length ≤ c) (hby : IsBytes xs) (hn : xs.length < 1000000000) :
    Calls Try.prog 49 #[.int .i64 which, .slice A xs.length c] W fun e w' => e = .returned (.tuple #[.int .i64 (rdEnd (Go.bits .and .i64 which 3) xs).1, .int .i64 (rdEnd (Go.bits .and .i64 which 3) xs).2]) ∧ Below W.heap.size W w' := by
  have h4 := and3 which
  obtain ⟨m, hm⟩ : ∃ m, Go.bits .and .i64 which 3 = m := ⟨_, rfl⟩
  rw [hm] at h4 ⊢
  go_enter Try.func49, Try.ntmps49
  go_upto_block 0 with fail
  clear hm
  rcases h4 with rfl | rfl | rfl | rfl
  · have HRD := Aside0.mk (Request_at A xs.length c xs W hC hnc hby hn)
    obtain ⟨g1, hg1⟩ : ∃ g, (rdEnd 0 xs).1 = g := ⟨_, rfl⟩
    obtain ⟨g2, hg2⟩ : ∃ g, (rdEnd 0 xs).2 = g := ⟨_, rfl⟩
    rw [show (endOf (whole 81 4096 xs ((fun b => pReq b 4096) xs))).1 = g1 from hg1, show (endOf (whole 81 4096 xs ((fun b => pReq b 4096) xs))).2 = g2 from hg2] at HRD
    have HGG := Aside0.mk (And.intro hg1 hg2)
    clear hg1 hg2 hC hnc hby hn
    go_wp2_with fail
    go_at_call 24
    refine HRD.out.mono ?_
    rintro e w1 ⟨hb, v, rfl, _⟩
    have HB := Aside0.mk hb
    clear hb
    go_wp2_with fail
    go_ret2
    rw [HGG.out.1, HGG.out.2]
    exact ⟨rfl, HB.out⟩
  · have HRD := Aside0.mk (Reply_at A xs.length c xs W hC hnc hby hn)
    obtain ⟨g1, hg1⟩ : ∃ g, (rdEnd 1 xs).1 = g := ⟨_, rfl⟩
    obtain ⟨g2, hg2⟩ : ∃ g, (rdEnd 1 xs).2 = g := ⟨_, rfl⟩
    rw [show (endOf (whole 82 4096 xs ((fun b => pReply b 4096) xs))).1 = g1 from hg1, show (endOf (whole 82 4096 xs ((fun b => pReply b 4096) xs))).2 = g2 from hg2] at HRD
    have HGG := Aside0.mk (And.intro hg1 hg2)
    clear hg1 hg2 hC hnc hby hn
    go_wp2_with fail
    go_at_call 15
    refine HRD.out.mono ?_
    rintro e w1 ⟨hb, v, rfl, _⟩
    have HB := Aside0.mk hb
    clear hb
    go_wp2_with fail
    go_ret2
    rw [HGG.out.1, HGG.out.2]
    exact ⟨rfl, HB.out⟩
  · have HRD := Aside0.mk (Record_at A xs.length c xs W hC hnc hby hn)
    obtain ⟨g1, hg1⟩ : ∃ g, (rdEnd 2 xs).1 = g := ⟨_, rfl⟩
    obtain ⟨g2, hg2⟩ : ∃ g, (rdEnd 2 xs).2 = g := ⟨_, rfl⟩
    rw [show (endOf (whole 83 4096 xs ((fun b => pRec b 4096) xs))).1 = g1 from hg1, show (endOf (whole 83 4096 xs ((fun b => pRec b 4096) xs))).2 = g2 from hg2] at HRD
    have HGG := Aside0.mk (And.intro hg1 hg2)
    clear hg1 hg2 hC hnc hby hn
    go_wp2_with fail
    go_at_call 29
    refine HRD.out.mono ?_
    rintro e w1 ⟨hb, v, rfl, _⟩
    have HB := Aside0.mk hb
    clear hb
    go_wp2_with fail
    go_ret2
    rw [HGG.out.1, HGG.out.2]
    exact ⟨rfl, HB.out⟩
  · have HRD := Aside0.mk (State_at A xs.length c xs W hC hnc hby hn)
    obtain ⟨g1, hg1⟩ : ∃ g, (rdEnd 3 xs).1 = g := ⟨_, rfl⟩
    obtain ⟨g2, hg2⟩ : ∃ g, (rdEnd 3 xs).2 = g := ⟨_, rfl⟩
    rw [show (endOf (whole 84 131072 xs ((fun b => pSt b 131072) xs))).1 = g1 from hg1, show (endOf (whole 84 131072 xs ((fun b => pSt b 131072) xs))).2 = g2 from hg2] at HRD
    have HGG := Aside0.mk (And.intro hg1 hg2)
    clear hg1 hg2 hC hnc hby hn
    go_wp2_with fail
    go_at_call 37
    refine HRD.out.mono ?_
    rintro e w1 ⟨hb, v, rfl, _⟩
    have HB := Aside0.mk hb
    clear hb
    go_wp2_with fail
    go_ret2
    rw [HGG.out.1, HGG.out.2]
    exact ⟨rfl, HB.out⟩
end Go.Proofs.Ytafmoglaockepaa.Cd
end
section
namespace Go.Proofs.Ytafmoglaockepaa.Cd
open Go Go.RowKit Go.Proofs.Ytafmoglaockepaa.Mine Go.Proofs.Ytafmoglaockepaa.Num Go.Proofs.Ytafmoglaockepaa.PG Go.Proofs.YtafmoglaockepaaW.PrintWords Go.Proofs.YtafmoglaockepaaW.PrintLast Go.Proofs.YtafmoglaockepaaW.PrintMore
set_option linter.unusedVariables false
set_option linter.unusedSimpArgs false
set_option maxHeartbeats 4000000
set_option maxRecDepth 100000
theorem own_shape' {W : World} {b : Nat} {ok : Nat → Prop} {v : Value} {xs : List Int} (h : (Kd.int .u8).R 5 W b ok v xs) (hp : 0 < xs.length) : ∃ g cap, v = .slice (some ⟨g, 0, none⟩) xs.length cap ∧ b ≤ g ∧ xs.length ≤ cap := by
  obtain ⟨_, inner, ho, hr⟩ := h
  rcases ho.2 with ⟨rfl, h2⟩ | ⟨g, cap, cur, rfl, hg, hh, h1, h2⟩
  · have := hr.1
    omega
  · exact ⟨g, cap, rfl, hg, h1⟩
theorem put_cases {most : Nat} {B : List Int} : (putCode most B = 0 ∧ putOut most B = B ∧ B.length ≤ most) ∨ putCode most B = 1 := by
  unfold putCode putOut
  by_cases h : most < B.length
  · right; rw [if_pos h]
  · left; rw [if_neg h, if_neg h]; exact ⟨rfl, rfl, by omega⟩
theorem wB_len {m : Int} {q : S40} {p : RepD} {lsn : Int} {s : StD} (h : (wB m q p lsn s).length ≤ wMost m) : (wB m q p lsn s).length ≤ 131072 := by
  unfold wMost at h
  split at h <;> omega
theorem cut_walk (which : Int) (q : S40) (Aq : Option Addr) (cq : Nat) (p : RepD) (Ap : Option Addr) (cp : Nat) (s : StD) (Asl : Option Addr) (csl : Nat) (Ash : Option Addr) (csh : Nat) (Asd : Option Addr) (csd : Nat) (lsn cut : Int) (Am : Option Addr) (cm : Nat) (zs : List Int) (hlsn : Int64 lsn) (hcut : Int64 cut) (W : World) (hg : Given3 q Aq cq p Ap cp s Asl csl Ash csh Asd csd W)
    (hCm : Kd.C (Kd.int .u8) W Am zs.length zs) (hncm : zs.length ≤ cm) (hbym : IsBytes zs) (hnm : zs.length ≤ 1048576) :
    Calls Try.prog 10 #[.int .i64 which, .agg #[.string q.f0, .int .i64 q.f1, .slice Aq q.f2.length cq, .string q.f3, .int .i64 q.f4, .int .i64 q.f5], .agg #[.string p.id, .int .i64 p.er, .int .i64 p.line, .slice Ap p.levs.length cp, .int .i64 p.now], .int .i64 lsn, .agg #[.int .i64 s.f0, .int .i64 s.f1, .int .i64 s.f2, .slice Asl s.f3.length csl, .slice Ash s.f4.length csh, .slice Asd s.f5.length csd], .int .i64 cut, .slice Am zs.length cm] W fun e w' => e = .returned (.bool true) ∧ Below W.heap.size W w' := by
  have HG := Aside0.mk hg
  have HLSN := Aside0.mk hlsn
  have HCM := Aside0.mk (fun W' (hb : Below W.heap.size W W') => Kd.C_below hCm hb)
  have HNCM := Aside0.mk hncm
  have HBYM := Aside0.mk hbym
  have HNM := Aside0.mk hnm
  have hbox := boxed3 q Aq cq p Ap cp s Asl csl Ash csh Asd csd W
  clear hg hlsn hCm hncm hbym hnm hcut
  go_enter Try.func10, Try.ntmps10
  go_upto_region 1 with fail
  obtain ⟨bo, hbo⟩ : ∃ b, W.heap.size = b := ⟨_, rfl⟩
  have HBO := Aside0.mk hbo
  rw [hbo] at hbox ⊢
  have M1 := Aside0.mk hbox
  clear hbox hbo
  generalize ((W.alloc (.cells #[.string q.f0, .int .i64 q.f1, .slice Aq q.f2.length cq, .string q.f3, .int .i64 q.f4, .int .i64 q.f5] 40)).alloc (.cells #[.string p.id, .int .i64 p.er, .int .i64 p.line, .slice Ap p.levs.length cp, .int .i64 p.now] 25)).alloc (.cells #[.int .i64 s.f0, .int .i64 s.f1, .int .i64 s.f2, .slice Asl s.f3.length csl, .slice Ash s.f4.length csh, .slice Asd s.f5.length csd] 58) = w1 at *
  have HM := Aside0.mk (fun w (hb : Below w1.heap.size w1 w) => M1.out.below hb)
  have HF0 := Aside0.mk (fun w (_ : Below w1.heap.size w1 w) => works_at w)
  have HF4 := Aside0.mk (fun w (hb : Below w1.heap.size w1 w) => larderlaw09_weight.calls (q.f2.length + 1) q.f0 q.f1 Aq cq q.f2 q.f3 q.f4 q.f5 (sumQ q) w (HG.out.below (by have hm := M1.out.below hb; rw [← hm.h0]; exact hm.b)).cq.1 (HG.out.below (by have hm := M1.out.below hb; rw [← hm.h0]; exact hm.b)).cq.2 (weight_ok q (by have := HG.out.sz; omega) _ (Nat.le_refl _)))
  have hsz := HG.out.sz
  obtain ⟨kb, hkb⟩ := bulk_ok s (by omega)
  have HF9 := Aside0.mk (fun w (hb : Below w1.heap.size w1 w) => larderlaw09_bulk.calls kb s.f0 s.f1 s.f2 Asl csl s.f3 Ash csh s.f4 Asd csd s.f5 (sumS s) w (HG.out.below (by have hm := M1.out.below hb; rw [← hm.h0]; exact hm.b)).cl.1 (HG.out.below (by have hm := M1.out.below hb; rw [← hm.h0]; exact hm.b)).cl.2 (HG.out.below (by have hm := M1.out.below hb; rw [← hm.h0]; exact hm.b)).ch.1 (HG.out.below (by have hm := M1.out.below hb; rw [← hm.h0]; exact hm.b)).ch.2 (HG.out.below (by have hm := M1.out.below hb; rw [← hm.h0]; exact hm.b)).cd.1 (HG.out.below (by have hm := M1.out.below hb; rw [← hm.h0]; exact hm.b)).cd.2 hkb)
  clear hkb
  obtain ⟨kb2, hkb⟩ := bulk_ok ⟨0, 0, 0, p.levs, [], []⟩ (by show sumL p.levs + 0 + 0 < _; omega)
  have HF16 := Aside0.mk (fun w (hb : Below w1.heap.size w1 w) => larderlaw09_bulk.calls kb2 0 0 0 Ap cp p.levs none 0 [] none 0 [] (sumL p.levs) w (HG.out.below (by have hm := M1.out.below hb; rw [← hm.h0]; exact hm.b)).cp.1 (HG.out.below (by have hm := M1.out.below hb; rw [← hm.h0]; exact hm.b)).cp.2 ⟨rfl, by decide, fun h => absurd h (by decide)⟩ (Nat.le_refl _) ⟨rfl, by decide, fun h => absurd h (by decide)⟩ (Nat.le_refl _) hkb)
  obtain ⟨s1, hs1⟩ : ∃ s1, sumQ q = s1 := ⟨_, rfl⟩
  obtain ⟨s2, hs2⟩ : ∃ s2, sumS s = s2 := ⟨_, rfl⟩
  obtain ⟨s3, hs3⟩ : ∃ s3, sumL p.levs = s3 := ⟨_, rfl⟩
  rw [hs1] at HF4
  rw [hs2] at HF9
  rw [hs3] at HF16
  rw [hs1, hs2, hs3] at hsz
  obtain ⟨z1, z2, z3⟩ := hsz
  have g1 : decide ((1048576 : Int) < ((s1 : Nat) : Int)) = false := decide_eq_false (by omega)
  have g2 : decide (1048576 < s1) = false := decide_eq_false (by omega)
  have g3 : decide ((1048576 : Int) < ((s2 : Nat) : Int)) = false := decide_eq_false (by omega)
  have g4 : decide (1048576 < s2) = false := decide_eq_false (by omega)
  have g5 : IntKind.i64.wrap (((s3 : Nat) : Int) + (p.id.size : Int)) = ((s3 + p.id.size : Nat) : Int) := by rw [IntWalk.i64_in _ (by omega)]; omega
  have g6 : decide ((1048576 : Int) < ((s3 + p.id.size : Nat) : Int)) = false := decide_eq_false (by omega)
  have g7 : decide (1048576 < s3 + p.id.size) = false := decide_eq_false (by omega)
  have g8 : decide ((1048576 : Int) < ((s3 : Nat) : Int) + (p.id.size : Int)) = false := decide_eq_false (by omega)
  clear hs1 hs2 hs3 z1 z2 z3 hkb
  have MKS := Aside0.mk (show ∀ w', Below w1.heap.size w1 w' → (fun w' : World => w'.cell? ⟨bo, 0, none⟩ = some (.string q.f0) ∧ w'.cell? ⟨bo, 1, none⟩ = some (.int .i64 q.f1) ∧ w'.cell? ⟨bo, 2, none⟩ = some (.slice Aq q.f2.length cq) ∧ w'.cell? ⟨bo, 3, none⟩ = some (.string q.f3) ∧ w'.cell? ⟨bo, 4, none⟩ = some (.int .i64 q.f4) ∧ w'.cell? ⟨bo, 5, none⟩ = some (.int .i64 q.f5) ∧ w'.cell? ⟨bo + 1 + 1, 0, none⟩ = some (.int .i64 s.f0) ∧ w'.cell? ⟨bo + 1 + 1, 1, none⟩ = some (.int .i64 s.f1) ∧ w'.cell? ⟨bo + 1 + 1, 2, none⟩ = some (.int .i64 s.f2) ∧ w'.cell? ⟨bo + 1 + 1, 3, none⟩ = some (.slice Asl s.f3.length csl) ∧ w'.cell? ⟨bo + 1 + 1, 4, none⟩ = some (.slice Ash s.f4.length csh) ∧ w'.cell? ⟨bo + 1 + 1, 5, none⟩ = some (.slice Asd s.f5.length csd) ∧ w'.cell? ⟨bo + 1, 0, none⟩ = some (.string p.id) ∧ w'.cell? ⟨bo + 1, 3, none⟩ = some (.slice Ap p.levs.length cp)) w' from fun w' hb => ⟨(HM.out _ hb).rq.cell 0 _ rfl, (HM.out _ hb).rq.cell 1 _ rfl, (HM.out _ hb).rq.cell 2 _ rfl, (HM.out _ hb).rq.cell 3 _ rfl, (HM.out _ hb).rq.cell 4 _ rfl, (HM.out _ hb).rq.cell 5 _ rfl, (HM.out _ hb).rs.cell 0 _ rfl, (HM.out _ hb).rs.cell 1 _ rfl, (HM.out _ hb).rs.cell 2 _ rfl, (HM.out _ hb).rs.cell 3 _ rfl, (HM.out _ hb).rs.cell 4 _ rfl, (HM.out _ hb).rs.cell 5 _ rfl, (HM.out _ hb).rp.cell 0 _ rfl, (HM.out _ hb).rp.cell 3 _ rfl⟩)
  refine wp_region_held_drew (S := fun w' : World => w'.cell? ⟨bo, 0, none⟩ = some (.string q.f0) ∧ w'.cell? ⟨bo, 1, none⟩ = some (.int .i64 q.f1) ∧ w'.cell? ⟨bo, 2, none⟩ = some (.slice Aq q.f2.length cq) ∧ w'.cell? ⟨bo, 3, none⟩ = some (.string q.f3) ∧ w'.cell? ⟨bo, 4, none⟩ = some (.int .i64 q.f4) ∧ w'.cell? ⟨bo, 5, none⟩ = some (.int .i64 q.f5) ∧ w'.cell? ⟨bo + 1 + 1, 0, none⟩ = some (.int .i64 s.f0) ∧ w'.cell? ⟨bo + 1 + 1, 1, none⟩ = some (.int .i64 s.f1) ∧ w'.cell? ⟨bo + 1 + 1, 2, none⟩ = some (.int .i64 s.f2) ∧ w'.cell? ⟨bo + 1 + 1, 3, none⟩ = some (.slice Asl s.f3.length csl) ∧ w'.cell? ⟨bo + 1 + 1, 4, none⟩ = some (.slice Ash s.f4.length csh) ∧ w'.cell? ⟨bo + 1 + 1, 5, none⟩ = some (.slice Asd s.f5.length csd) ∧ w'.cell? ⟨bo + 1, 0, none⟩ = some (.string p.id) ∧ w'.cell? ⟨bo + 1, 3, none⟩ = some (.slice Ap p.levs.length cp)) (by kernel_rfl) (MKS.out _ (below_drew (Below.refl _ _))) (fun hHeld => ?_)
  refine wpAnyH_ready (rs := [0]) (by kernel_rfl) (by simp) ?_
  refine AllReadyH.cons (o := { dst := some 20, op := Op.call { callee := Callee.value (Operand.func 39), args := #[], argTypes := #[] }, type := 4, pos := "plain.go:139", after := #[], guard := none }) rfl (fun K hK => ?_) AllReadyH.nil
  go_simp
  go_at_call 39
  refine (HF0.out _ (below_drew (Below.refl _ _))).mono ?_
  rintro e wz0 ⟨rfl, hb⟩
  have HBZ0 := Aside0.mk (show Below w1.heap.size w1 wz0 from (below_drew (Below.refl _ _)).trans (hb.mono (Below.size (B := w1.heap.size) (below_drew (Below.refl _ _)))))
  clear hb
  refine hK.out _ _ (MKS.out _ HBZ0.out) (fun hHeld => ?_)
  clear hK K
  (try simp only [Act.put, List.setIfInBounds_toArray, List.set_cons_zero, List.set_cons_succ])
  refine wpAnyH_take (i := 1) (oi := { dst := some 21, op := Op.unOp UnOp.not 4 (Operand.tmp 20), type := 4, pos := "plain.go:139", after := #[{ on := 0, ground := Ground.data }], guard := none }) (v := ?_) rfl (by kernel_rfl) (by kernel_rfl) (by kernel_rfl) (fun _ _ _ h => h) (Or.inl ⟨by rfl, ?_⟩) hHeld ?_
  rotate_left
  · intro w' hS; obtain ⟨hS0, hS1, hS2, hS3, hS4, hS5, hS6, hS7, hS8, hS9, hS10, hS11, hS12, hS13⟩ := hS; go_simp; all_goals (with_reducible rfl)
  (try simp only [Act.put, List.setIfInBounds_toArray, List.set_cons_zero, List.set_cons_succ])
  refine wpAnyH_take (i := 2) (oi := { dst := some 22, op := Op.move (Operand.tmp 21), type := 4, pos := "plain.go:139", after := #[{ on := 1, ground := Ground.data }, { on := 0, ground := Ground.chain }], guard := none }) (v := ?_) rfl (by kernel_rfl) (by kernel_rfl) (by kernel_rfl) (fun _ _ _ h => h) (Or.inl ⟨by rfl, ?_⟩) hHeld ?_
  rotate_left
  · intro w' hS; obtain ⟨hS0, hS1, hS2, hS3, hS4, hS5, hS6, hS7, hS8, hS9, hS10, hS11, hS12, hS13⟩ := hS; go_simp; all_goals (with_reducible rfl)
  (try simp only [Act.put, List.setIfInBounds_toArray, List.set_cons_zero, List.set_cons_succ])
  refine wpAnyH_take (i := 3) (oi := { dst := some 23, op := Op.load 40 (Operand.tmp 8), type := 40, pos := "plain.go:139", after := #[{ on := 2, ground := Ground.guard }], guard := some (2, false) }) (v := ?_) rfl (by kernel_rfl) (by kernel_rfl) (by kernel_rfl) (fun _ _ _ h => h) (Or.inl ⟨by rfl, ?_⟩) hHeld ?_
  rotate_left
  · intro w' hS; obtain ⟨hS0, hS1, hS2, hS3, hS4, hS5, hS6, hS7, hS8, hS9, hS10, hS11, hS12, hS13⟩ := hS; go_simp; all_goals (with_reducible rfl)
  (try simp only [Act.put, List.setIfInBounds_toArray, List.set_cons_zero, List.set_cons_succ])
  refine wpAnyH_ready (rs := [4]) (by kernel_rfl) (by simp) ?_
  refine AllReadyH.cons (o := { dst := some 24, op := Op.call { callee := Callee.value (Operand.func 19), args := #[Operand.tmp 23], argTypes := #[40] }, type := 3, pos := "plain.go:139", after := #[{ on := 3, ground := Ground.data }, { on := 2, ground := Ground.chain }, { on := 2, ground := Ground.guard }], guard := some (2, false) }) rfl (fun K hK => ?_) AllReadyH.nil
  go_simp
  go_at_call 19
  refine (HF4.out _ HBZ0.out).mono ?_
  rintro e wz4 ⟨rfl, hb⟩
  have HBZ4 := Aside0.mk (show Below w1.heap.size w1 wz4 from HBZ0.out.trans (hb.mono (Below.size (B := w1.heap.size) HBZ0.out)))
  clear hb
  refine hK.out _ _ (MKS.out _ HBZ4.out) (fun hHeld => ?_)
  clear hK K
  (try simp only [Act.put, List.setIfInBounds_toArray, List.set_cons_zero, List.set_cons_succ])
  refine wpAnyH_take (i := 5) (oi := { dst := some 25, op := Op.binOp BinOp.gtr 3 (Operand.tmp 24) (Operand.const (Value.int IntKind.i64 1048576)) 3, type := 4, pos := "plain.go:139", after := #[{ on := 4, ground := Ground.data }, { on := 2, ground := Ground.guard }], guard := some (2, false) }) (v := ?_) rfl (by kernel_rfl) (by kernel_rfl) (by kernel_rfl) (fun _ _ _ h => h) (Or.inl ⟨by rfl, ?_⟩) hHeld ?_
  rotate_left
  · intro w' hS; obtain ⟨hS0, hS1, hS2, hS3, hS4, hS5, hS6, hS7, hS8, hS9, hS10, hS11, hS12, hS13⟩ := hS; go_simp; all_goals (with_reducible rfl)
  (try simp only [Act.put, List.setIfInBounds_toArray, List.set_cons_zero, List.set_cons_succ])
  refine wpAnyH_take (i := 6) (oi := { dst := some 26, op := Op.pick (Operand.tmp 22) (Operand.const (Value.bool true)) (Operand.tmp 25), type := 4, pos := "plain.go:139", after := #[{ on := 2, ground := Ground.data }, { on := 5, ground := Ground.data }], guard := none }) (v := ?_) rfl (by kernel_rfl) (by kernel_rfl) (by kernel_rfl) (fun _ _ _ h => h) (Or.inl ⟨by rfl, ?_⟩) hHeld ?_
  rotate_left
  · intro w' hS; obtain ⟨hS0, hS1, hS2, hS3, hS4, hS5, hS6, hS7, hS8, hS9, hS10, hS11, hS12, hS13⟩ := hS; go_simp; all_goals (with_reducible rfl)
  (try simp only [Act.put, List.setIfInBounds_toArray, List.set_cons_zero, List.set_cons_succ])
  refine wpAnyH_take (i := 7) (oi := { dst := some 27, op := Op.move (Operand.tmp 26), type := 4, pos := "plain.go:139", after := #[{ on := 6, ground := Ground.data }, { on := 4, ground := Ground.chain }], guard := none }) (v := ?_) rfl (by kernel_rfl) (by kernel_rfl) (by kernel_rfl) (fun _ _ _ h => h) (Or.inl ⟨by rfl, ?_⟩) hHeld ?_
  rotate_left
  · intro w' hS; obtain ⟨hS0, hS1, hS2, hS3, hS4, hS5, hS6, hS7, hS8, hS9, hS10, hS11, hS12, hS13⟩ := hS; go_simp; all_goals (with_reducible rfl)
  (try simp only [Act.put, List.setIfInBounds_toArray, List.set_cons_zero, List.set_cons_succ])
  refine wpAnyH_take (i := 8) (oi := { dst := some 28, op := Op.load 58 (Operand.tmp 11), type := 58, pos := "plain.go:139", after := #[{ on := 7, ground := Ground.guard }], guard := some (7, false) }) (v := ?_) rfl (by kernel_rfl) (by kernel_rfl) (by kernel_rfl) (fun _ _ _ h => h) (Or.inl ⟨by rfl, ?_⟩) hHeld ?_
  rotate_left
  · intro w' hS; obtain ⟨hS0, hS1, hS2, hS3, hS4, hS5, hS6, hS7, hS8, hS9, hS10, hS11, hS12, hS13⟩ := hS; go_simp; all_goals (with_reducible rfl)
  (try simp only [Act.put, List.setIfInBounds_toArray, List.set_cons_zero, List.set_cons_succ])
  refine wpAnyH_ready (rs := [9]) (by kernel_rfl) (by simp) ?_
  refine AllReadyH.cons (o := { dst := some 29, op := Op.call { callee := Callee.value (Operand.func 32), args := #[Operand.tmp 28], argTypes := #[58] }, type := 3, pos := "plain.go:139", after := #[{ on := 8, ground := Ground.data }, { on := 7, ground := Ground.chain }, { on := 7, ground := Ground.guard }], guard := some (7, false) }) rfl (fun K hK => ?_) AllReadyH.nil
  go_simp
  go_at_call 32
  refine (HF9.out _ HBZ4.out).mono ?_
  rintro e wz9 ⟨rfl, hb⟩
  have HBZ9 := Aside0.mk (show Below w1.heap.size w1 wz9 from HBZ4.out.trans (hb.mono (Below.size (B := w1.heap.size) HBZ4.out)))
  clear hb
  refine hK.out _ _ (MKS.out _ HBZ9.out) (fun hHeld => ?_)
  clear hK K
  (try simp only [Act.put, List.setIfInBounds_toArray, List.set_cons_zero, List.set_cons_succ])
  refine wpAnyH_take (i := 10) (oi := { dst := some 30, op := Op.binOp BinOp.gtr 3 (Operand.tmp 29) (Operand.const (Value.int IntKind.i64 1048576)) 3, type := 4, pos := "plain.go:139", after := #[{ on := 9, ground := Ground.data }, { on := 7, ground := Ground.guard }], guard := some (7, false) }) (v := ?_) rfl (by kernel_rfl) (by kernel_rfl) (by kernel_rfl) (fun _ _ _ h => h) (Or.inl ⟨by rfl, ?_⟩) hHeld ?_
  rotate_left
  · intro w' hS; obtain ⟨hS0, hS1, hS2, hS3, hS4, hS5, hS6, hS7, hS8, hS9, hS10, hS11, hS12, hS13⟩ := hS; go_simp; all_goals (with_reducible rfl)
  (try simp only [Act.put, List.setIfInBounds_toArray, List.set_cons_zero, List.set_cons_succ])
  refine wpAnyH_take (i := 11) (oi := { dst := some 31, op := Op.pick (Operand.tmp 27) (Operand.const (Value.bool true)) (Operand.tmp 30), type := 4, pos := "plain.go:139", after := #[{ on := 7, ground := Ground.data }, { on := 10, ground := Ground.data }], guard := none }) (v := ?_) rfl (by kernel_rfl) (by kernel_rfl) (by kernel_rfl) (fun _ _ _ h => h) (Or.inl ⟨by rfl, ?_⟩) hHeld ?_
  rotate_left
  · intro w' hS; obtain ⟨hS0, hS1, hS2, hS3, hS4, hS5, hS6, hS7, hS8, hS9, hS10, hS11, hS12, hS13⟩ := hS; go_simp; all_goals (with_reducible rfl)
  (try simp only [Act.put, List.setIfInBounds_toArray, List.set_cons_zero, List.set_cons_succ])
  refine wpAnyH_take (i := 12) (oi := { dst := some 32, op := Op.move (Operand.tmp 31), type := 4, pos := "plain.go:139", after := #[{ on := 11, ground := Ground.data }, { on := 9, ground := Ground.chain }], guard := none }) (v := ?_) rfl (by kernel_rfl) (by kernel_rfl) (by kernel_rfl) (fun _ _ _ h => h) (Or.inl ⟨by rfl, ?_⟩) hHeld ?_
  rotate_left
  · intro w' hS; obtain ⟨hS0, hS1, hS2, hS3, hS4, hS5, hS6, hS7, hS8, hS9, hS10, hS11, hS12, hS13⟩ := hS; go_simp; all_goals (with_reducible rfl)
  (try simp only [Act.put, List.setIfInBounds_toArray, List.set_cons_zero, List.set_cons_succ])
  refine wpAnyH_take (i := 13) (oi := { dst := some 33, op := Op.fieldAddr 25 (Operand.tmp 9) 3, type := 0, pos := "plain.go:139", after := #[{ on := 12, ground := Ground.guard }], guard := some (12, false) }) (v := ?_) rfl (by kernel_rfl) (by kernel_rfl) (by kernel_rfl) (fun _ _ _ h => h) (Or.inl ⟨by rfl, ?_⟩) hHeld ?_
  rotate_left
  · intro w' hS; obtain ⟨hS0, hS1, hS2, hS3, hS4, hS5, hS6, hS7, hS8, hS9, hS10, hS11, hS12, hS13⟩ := hS; go_simp; all_goals (with_reducible rfl)
  (try simp only [Act.put, List.setIfInBounds_toArray, List.set_cons_zero, List.set_cons_succ])
  refine wpAnyH_take (i := 14) (oi := { dst := some 34, op := Op.load 23 (Operand.tmp 33), type := 23, pos := "plain.go:139", after := #[{ on := 13, ground := Ground.data }, { on := 12, ground := Ground.guard }], guard := some (12, false) }) (v := ?_) rfl (by kernel_rfl) (by kernel_rfl) (by kernel_rfl) (fun _ _ _ h => h) (Or.inl ⟨by rfl, ?_⟩) hHeld ?_
  rotate_left
  · intro w' hS; obtain ⟨hS0, hS1, hS2, hS3, hS4, hS5, hS6, hS7, hS8, hS9, hS10, hS11, hS12, hS13⟩ := hS; go_simp; all_goals (with_reducible rfl)
  (try simp only [Act.put, List.setIfInBounds_toArray, List.set_cons_zero, List.set_cons_succ])
  refine wpAnyH_take (i := 15) (oi := { dst := some 35, op := Op.build 58 #[(3, Operand.tmp 34)], type := 58, pos := "plain.go:139", after := #[{ on := 14, ground := Ground.data }, { on := 12, ground := Ground.guard }], guard := some (12, false) }) (v := ?_) rfl (by kernel_rfl) (by kernel_rfl) (by kernel_rfl) (fun _ _ _ h => h) (Or.inl ⟨by rfl, ?_⟩) hHeld ?_
  rotate_left
  · intro w' hS; obtain ⟨hS0, hS1, hS2, hS3, hS4, hS5, hS6, hS7, hS8, hS9, hS10, hS11, hS12, hS13⟩ := hS; go_simp; all_goals (with_reducible rfl)
  (try simp only [Act.put, List.setIfInBounds_toArray, List.set_cons_zero, List.set_cons_succ])
  refine wpAnyH_take (i := 17) (oi := { dst := some 37, op := Op.fieldAddr 25 (Operand.tmp 9) 0, type := 0, pos := "plain.go:139", after := #[{ on := 12, ground := Ground.guard }], guard := some (12, false) }) (v := ?_) rfl (by kernel_rfl) (by kernel_rfl) (by kernel_rfl) (fun _ _ _ h => h) (Or.inl ⟨by rfl, ?_⟩) hHeld ?_
  rotate_left
  · intro w' hS; obtain ⟨hS0, hS1, hS2, hS3, hS4, hS5, hS6, hS7, hS8, hS9, hS10, hS11, hS12, hS13⟩ := hS; go_simp; all_goals (with_reducible rfl)
  (try simp only [Act.put, List.setIfInBounds_toArray, List.set_cons_zero, List.set_cons_succ])
  refine wpAnyH_take (i := 18) (oi := { dst := some 38, op := Op.load 9 (Operand.tmp 37), type := 9, pos := "plain.go:139", after := #[{ on := 17, ground := Ground.data }, { on := 12, ground := Ground.guard }], guard := some (12, false) }) (v := ?_) rfl (by kernel_rfl) (by kernel_rfl) (by kernel_rfl) (fun _ _ _ h => h) (Or.inl ⟨by rfl, ?_⟩) hHeld ?_
  rotate_left
  · intro w' hS; obtain ⟨hS0, hS1, hS2, hS3, hS4, hS5, hS6, hS7, hS8, hS9, hS10, hS11, hS12, hS13⟩ := hS; go_simp; all_goals (with_reducible rfl)
  (try simp only [Act.put, List.setIfInBounds_toArray, List.set_cons_zero, List.set_cons_succ])
  refine wpAnyH_take (i := 19) (oi := { dst := some 39, op := Op.call { callee := Callee.builtin Builtin.len, args := #[Operand.tmp 38], argTypes := #[9] }, type := 3, pos := "plain.go:139", after := #[{ on := 18, ground := Ground.data }, { on := 12, ground := Ground.guard }], guard := some (12, false) }) (v := ?_) rfl (by kernel_rfl) (by kernel_rfl) (by kernel_rfl) (fun _ _ _ h => h) (Or.inl ⟨by rfl, ?_⟩) hHeld ?_
  rotate_left
  · intro w' hS; obtain ⟨hS0, hS1, hS2, hS3, hS4, hS5, hS6, hS7, hS8, hS9, hS10, hS11, hS12, hS13⟩ := hS; go_simp; all_goals (with_reducible rfl)
  (try simp only [Act.put, List.setIfInBounds_toArray, List.set_cons_zero, List.set_cons_succ])
  refine wpAnyH_ready (rs := [16]) (by kernel_rfl) (by simp) ?_
  refine AllReadyH.cons (o := { dst := some 36, op := Op.call { callee := Callee.value (Operand.func 32), args := #[Operand.tmp 35], argTypes := #[58] }, type := 3, pos := "plain.go:139", after := #[{ on := 15, ground := Ground.data }, { on := 12, ground := Ground.chain }, { on := 12, ground := Ground.guard }], guard := some (12, false) }) rfl (fun K hK => ?_) AllReadyH.nil
  go_simp
  go_at_call 32
  refine (HF16.out _ HBZ9.out).mono ?_
  rintro e wz16 ⟨rfl, hb⟩
  have HBZ16 := Aside0.mk (show Below w1.heap.size w1 wz16 from HBZ9.out.trans (hb.mono (Below.size (B := w1.heap.size) HBZ9.out)))
  clear hb
  refine hK.out _ _ (MKS.out _ HBZ16.out) (fun hHeld => ?_)
  clear hK K
  (try simp only [Act.put, List.setIfInBounds_toArray, List.set_cons_zero, List.set_cons_succ])
  refine wpAnyH_take (i := 20) (oi := { dst := some 40, op := Op.binOp BinOp.add 3 (Operand.tmp 36) (Operand.tmp 39) 3, type := 3, pos := "plain.go:139", after := #[{ on := 16, ground := Ground.data }, { on := 19, ground := Ground.data }, { on := 12, ground := Ground.guard }], guard := some (12, false) }) (v := ?_) rfl (by kernel_rfl) (by kernel_rfl) (by kernel_rfl) (fun _ _ _ h => h) (Or.inl ⟨by rfl, ?_⟩) hHeld ?_
  rotate_left
  · intro w' hS; obtain ⟨hS0, hS1, hS2, hS3, hS4, hS5, hS6, hS7, hS8, hS9, hS10, hS11, hS12, hS13⟩ := hS; go_simp; all_goals (with_reducible rfl)
  (try simp only [Act.put, List.setIfInBounds_toArray, List.set_cons_zero, List.set_cons_succ])
  refine wpAnyH_take (i := 21) (oi := { dst := some 41, op := Op.binOp BinOp.gtr 3 (Operand.tmp 40) (Operand.const (Value.int IntKind.i64 1048576)) 3, type := 4, pos := "plain.go:139", after := #[{ on := 20, ground := Ground.data }, { on := 12, ground := Ground.guard }], guard := some (12, false) }) (v := ?_) rfl (by kernel_rfl) (by kernel_rfl) (by kernel_rfl) (fun _ _ _ h => h) (Or.inl ⟨by rfl, ?_⟩) hHeld ?_
  rotate_left
  · intro w' hS; obtain ⟨hS0, hS1, hS2, hS3, hS4, hS5, hS6, hS7, hS8, hS9, hS10, hS11, hS12, hS13⟩ := hS; go_simp; all_goals (with_reducible rfl)
  (try simp only [Act.put, List.setIfInBounds_toArray, List.set_cons_zero, List.set_cons_succ])
  refine wpAnyH_take (i := 22) (oi := { dst := some 42, op := Op.pick (Operand.tmp 32) (Operand.const (Value.bool true)) (Operand.tmp 41), type := 4, pos := "plain.go:139", after := #[{ on := 12, ground := Ground.data }, { on := 21, ground := Ground.data }], guard := none }) (v := ?_) rfl (by kernel_rfl) (by kernel_rfl) (by kernel_rfl) (fun _ _ _ h => h) (Or.inl ⟨by rfl, ?_⟩) hHeld ?_
  rotate_left
  · intro w' hS; obtain ⟨hS0, hS1, hS2, hS3, hS4, hS5, hS6, hS7, hS8, hS9, hS10, hS11, hS12, hS13⟩ := hS; go_simp; all_goals (with_reducible rfl)
  (try simp only [Act.put, List.setIfInBounds_toArray, List.set_cons_zero, List.set_cons_succ])
  refine wpAnyH_done (by kernel_rfl) ?_ _
  (try simp only [Act.put, List.setIfInBounds_toArray, List.set_cons_zero, List.set_cons_succ])
  have M5 := Aside0.mk (HM.out _ HBZ16.out)
  clear HM HF0 HF4 HF9 HF16 MKS HBZ0 HBZ4 HBZ9 HBZ16 M1
  go_upto_region 3 with fail
  clear g1 g2 g3 g4 g5 g6 g7 g8
  obtain ⟨w5, hw5⟩ : ∃ w5, w5 = wz16 := ⟨_, rfl⟩
  subst hw5
  have HWR := Aside0.mk (written_at which q Aq cq p Ap cp s Asl csl Ash csh Asd csd lsn HLSN.out w5 (HG.out.below (by rw [← M5.out.h0]; exact M5.out.b)))
  have H4 := Aside0.mk (and3 which)
  obtain ⟨m, hm⟩ : ∃ m, Go.bits .and .i64 which 3 = m := ⟨_, rfl⟩
  have HM := Aside0.mk hm
  rw [hm] at HWR H4
  clear hm
  have hcs := put_cases (most := wMost m) (B := wB m q p lsn s)
  obtain ⟨P, hP⟩ : ∃ P, putOut (wMost m) (wB m q p lsn s) = P := ⟨_, rfl⟩
  obtain ⟨ec, hec⟩ : ∃ ec, putCode (wMost m) (wB m q p lsn s) = ec := ⟨_, rfl⟩
  rw [hP, hec] at HWR hcs
  have HCS := Aside0.mk hcs
  clear hP hec hcs
  have q0 := M5.out.rq.cell 0 _ rfl
  have q1 := M5.out.rq.cell 1 _ rfl
  have q2 := M5.out.rq.cell 2 _ rfl
  have q3 := M5.out.rq.cell 3 _ rfl
  have q4 := M5.out.rq.cell 4 _ rfl
  have q5 := M5.out.rq.cell 5 _ rfl
  have p0 := M5.out.rp.cell 0 _ rfl
  have p1 := M5.out.rp.cell 1 _ rfl
  have p2 := M5.out.rp.cell 2 _ rfl
  have p3 := M5.out.rp.cell 3 _ rfl
  have p4 := M5.out.rp.cell 4 _ rfl
  have s0 := M5.out.rs.cell 0 _ rfl
  have s1 := M5.out.rs.cell 1 _ rfl
  have s2 := M5.out.rs.cell 2 _ rfl
  have s3 := M5.out.rs.cell 3 _ rfl
  have s4 := M5.out.rs.cell 4 _ rfl
  have s5 := M5.out.rs.cell 5 _ rfl
  go_wp2_with fail
  go_at_call 48
  refine HWR.out.mono ?_
  rintro e w6 ⟨v, rfl, hR, hb⟩
  obtain ⟨Ab, cb, rfl, hcb, hBC⟩ := Kd.R_reads hR
  have M6 := Aside0.mk (M5.out.below hb)
  have HBC := Aside0.mk (And.intro hBC hcb)
  clear hR hb hBC hcb HWR q0 q1 q2 q3 q4 q5 p0 p1 p2 p3 p4 s0 s1 s2 s3 s4 s5
  rcases HCS.out with ⟨e1, e2, e3⟩ | e1
  rotate_left
  · subst e1
    go_wp2_with fail
    go_ret
    rw [HBO.out]
    exact ⟨rfl, M6.out.b⟩
  subst e1
  have HPOS := Aside0.mk (show 0 < P.length by rw [e2]; exact wB_pos)
  have HPL := Aside0.mk (show P.length ≤ 131072 by rw [e2]; exact wB_len e3)
  have HPM := Aside0.mk (show P.length ≤ wMost m by rw [e2]; exact e3)
  have HPB := Aside0.mk (show IsBytes P by rw [e2]; exact isBytes_wB)
  have HCU := Aside0.mk (fun c (hc : c < P.length) => show rdEnd m (P.take c) = (3, (c : Int)) by rw [e2]; exact read_cut H4.out HG.out.okq HG.out.okp HLSN.out HG.out.oks e3 c (by rw [← e2]; exact hc))
  have HTA := Aside0.mk (fun t => show rdEnd m (P ++ t) = if wMost m < (P ++ t).length then (1, 0) else if t = [] then (0, 0) else (4, (P.length : Int)) by rw [e2]; exact read_tail H4.out HG.out.okq HG.out.okp HLSN.out HG.out.oks e3 t)
  clear e2 e3 HCS
  have l1 : ((P.length : Int) == 0) = false := beq_eq_false_iff_ne.2 (by have := HPOS.out; omega)
  have l2 : decide ((P.length : Int) = 0) = false := decide_eq_false (by have := HPOS.out; omega)
  have l3 : (P.length == 0) = false := beq_eq_false_iff_ne.2 (by have := HPOS.out; omega)
  have l4 : (P.length = 0) = False := eq_false (by have := HPOS.out; omega)
  go_upto_if 65 with fail
  have hmod : -(P.length : Int) < cut.tmod P.length ∧ cut.tmod P.length < P.length := by
    have hp := HPOS.out
    have h1 := Int.tmod_lt_of_pos cut (show (0 : Int) < P.length by omega)
    have h2 := Int.lt_tmod_of_pos cut (show (0 : Int) < P.length by omega)
    omega
  obtain ⟨r, hr⟩ : ∃ r, cut.tmod P.length = r := ⟨_, rfl⟩
  rw [hr] at hmod ⊢
  have HR := Aside0.mk hmod
  clear hr hmod
  go_cut [5] from 17 (fun v1 wc => ∃ i : Nat, v1 = .int .i64 (i : Int) ∧ Aside0 (i < P.length) ∧ wc = w6)
  case first =>
    by_cases h0 : r < 0
    · have r1 : decide (r < 0) = true := decide_eq_true h0
      obtain ⟨i, hi⟩ : ∃ i : Nat, r + (P.length : Int) = (i : Int) := ⟨(r + P.length).toNat, by have := HR.out; omega⟩
      have hw : wrap64 (r + (P.length : Int)) = (i : Int) := by have := HR.out; have := HPL.out; unfold wrap64; omega
      have hw2 : IntKind.i64.wrap (r + (P.length : Int)) = (i : Int) := by have := HR.out; have := HPL.out; rw [IntWalk.i64_in _ (by omega)]; omega
      have HI := Aside0.mk (show i < P.length by have := HR.out; omega)
      clear hi
      go_wp2_with fail
      go_meet
      case rel => exact ⟨i, rfl, HI, rfl⟩
    · have r1 : decide (r < 0) = false := decide_eq_false h0
      obtain ⟨i, rfl⟩ : ∃ i : Nat, r = (i : Int) := ⟨r.toNat, by omega⟩
      have HI := Aside0.mk (show i < P.length by have := HR.out; omega)
      clear h0
      go_wp2_with fail
      go_meet
      case rel => exact ⟨i, rfl, HI, rfl⟩
  case rest =>
    obtain ⟨i, rfl, HI, rfl⟩ := hcut
    obtain ⟨w6, hw⟩ : ∃ w, w = wc := ⟨_, rfl⟩
    subst hw
    clear HR
    have HRD := Aside0.mk (show _ from read_at which Ab cb (P.take i) w6 (Kd.C_take HBC.out.1 (Nat.le_of_lt HI.out)) (by rw [List.length_take]; have := HBC.out.2; omega) (fun x hx => HPB.out x (List.mem_of_mem_take hx)) (by rw [List.length_take]; have := HPL.out; omega))
    rw [HM.out, HCU.out i HI.out, List.length_take, Nat.min_eq_left (Nat.le_of_lt HI.out)] at HRD
    have i1 : (0 : Int) ≤ (i : Int) := by omega
    have i2 : (i : Int) ≤ (cb : Int) := by have := HI.out; have := HBC.out.2; omega
    have i3 : i ≤ cb := by have := HI.out; have := HBC.out.2; omega
    have i4 : ((i : Int) != (i : Int)) = false := by simp
    go_upto_region 15 with (first | (
      go_at_call 49
      refine HRD.out.mono ?_
      rintro e w7 ⟨rfl, hb⟩
      have M7 := Aside0.mk (M6.out.below hb)
      have HB7 := Aside0.mk hb
      clear hb HRD))
    have HPC := Aside0.mk (Kd.C_below HBC.out.1 (show Below w6.heap.size w6 w7 from HB7.out))
    clear i1 i2 i3 i4
    go_cut [19] from 20 (fun v8 wd => ∃ g cap, v8 = .slice (some ⟨g, 0, none⟩) P.length cap ∧ Aside0 (P.length ≤ cap) ∧ Aside0 ((Kd.int .u8).R 5 wd bo (fun _ => True) (.slice (some ⟨g, 0, none⟩) P.length cap) P) ∧ Aside0 (Below bo W wd))
    case first =>
      go_wp2_with (first | (
        (with_reducible refine gate_builtin (b := .append) (xs := #[.tmp 85, .tmp 86]) rfl ?_)
        at_builtin
        refine Kd.R_append_rows (Kd.int .u8) (Rr := (Kd.int .u8).K w7) (w0 := W) bo rfl (.tmp 85) (.tmp 86) 26 5 (.int .u8 0) 1 rfl Try.underlying26 info5' rfl (by decide) (by decide) (.slice none 0 0) ([] : List Int) P _ _ _ (fun _ => True) (fun _ => False) rfl rfl (Kd.R_nil _ _ _ _ _) HPC.out (fun _ _ h => h) (fun _ h => h.elim) (fun _ _ => trivial) M7.out.b (by have := M7.out.size; omega) (by have := HPL.out; rw [List.length_nil]; omega) ?_
        intro v1 w8 ho hb hg hat
        rw [List.nil_append] at ho
        obtain ⟨g, cap, rfl, hg0, hcap⟩ := own_shape' ho HPOS.out
        have HO8 := Aside0.mk ho
        have HC8 := Aside0.mk hcap
        have B8 := Aside0.mk hb
        clear ho hb hg hat hg0 hcap))
      go_meet
      case rel => exact ⟨g, cap, rfl, HC8, HO8, B8⟩
    case rest =>
      obtain ⟨g, cap, rfl, HC8, HO8, B8⟩ := hcut
      obtain ⟨w8, hw⟩ : ∃ w, w = wc := ⟨_, rfl⟩
      subst hw
      have HSZ := Aside0.mk (show bo ≤ w8.heap.size from by have := B8.out.size; have := HBO.out; omega)
      go_upto_region 16 with fail
      go_cut [19] from 20 (fun v8 we => ∃ g cap, v8 = .slice (some ⟨g, 0, none⟩) (P ++ zs).length cap ∧ Aside0 ((P ++ zs).length ≤ cap) ∧ Aside0 ((Kd.int .u8).R 5 we bo (fun _ => True) (.slice (some ⟨g, 0, none⟩) (P ++ zs).length cap) (P ++ zs)) ∧ Aside0 (Below bo W we))
      case first =>
        go_wp2_with (first | (
          (with_reducible refine gate_builtin (b := .append) (xs := #[.tmp 88, .tmp 89]) rfl ?_)
          at_builtin
          refine Kd.R_append_rows (Kd.int .u8) (Rr := (Kd.int .u8).K w8) (w0 := W) bo rfl (.tmp 88) (.tmp 89) 26 5 (.int .u8 0) 1 rfl Try.underlying26 info5' rfl (by decide) (by decide) (.slice (some ⟨g, 0, none⟩) P.length cap) P zs _ _ _ (fun _ => True) (fun _ => False) rfl rfl HO8.out (HCM.out _ (by rw [HBO.out]; exact B8.out)) (fun _ _ h => h) (fun _ h => h.elim) (fun _ _ => trivial) B8.out HSZ.out (by have := HPL.out; have := HNM.out; omega) ?_
          intro v1 w9 ho hb hg hat
          obtain ⟨g9, cap9, rfl, hg0, hcap⟩ := own_shape' ho (by rw [List.length_append]; have := HPOS.out; omega)
          have HO9 := Aside0.mk ho
          have HC9 := Aside0.mk hcap
          have B9 := Aside0.mk hb
          clear ho hb hg hat hg0 hcap))
        go_meet
        case rel => exact ⟨g9, cap9, by rw [List.length_append], HC9, HO9, B9⟩
      case rest =>
        obtain ⟨g9, cap9, rfl, HC9, HO9, B9⟩ := hcut
        obtain ⟨w9, hw⟩ : ∃ w, w = wc := ⟨_, rfl⟩
        subst hw
        have hC9 : Kd.C (Kd.int .u8) w9 (some ⟨g9, 0, none⟩) (P ++ zs).length (P ++ zs) := by
          obtain ⟨A', c', e, hle, hC⟩ := Kd.R_reads HO9.out
          injection e with e1 e2 e3
          subst e1 e3
          exact hC
        have HRD := Aside0.mk (show _ from read_at which (some ⟨g9, 0, none⟩) cap9 (P ++ zs) w9 hC9 HC9.out (fun x hx => by
          rcases List.mem_append.1 hx with h | h
          · exact HPB.out x h
          · exact HBYM.out x h) (by rw [List.length_append]; have := HPL.out; have := HNM.out; omega))
        rw [HM.out, HTA.out zs] at HRD
        clear hC9
        have HLL := Aside0.mk (show (P ++ zs).length = P.length + zs.length from List.length_append ..)
        obtain ⟨L, hL⟩ : ∃ L, (P ++ zs).length = L := ⟨_, rfl⟩
        rw [hL] at HRD HLL HO9 HC9 ⊢
        have HSZ9 := Aside0.mk (show bo ≤ w9.heap.size from by have := B9.out.size; have := HBO.out; omega)
        clear hL
        by_cases hz : zs = []
        · subst hz
          have hll := HLL.out
          rw [List.length_nil] at hll
          rw [if_neg (by have := HPM.out; omega), if_pos rfl] at HRD
          clear hll
          go_wp2_with fail
          go_at_call 49
          refine HRD.out.mono ?_
          rintro e wf ⟨rfl, hb⟩
          have BF := Aside0.mk (B9.out.trans (hb.mono HSZ9.out))
          clear hb HRD
          go_wp2_with fail
          go_ret
          rw [HBO.out]
          exact ⟨rfl, BF.out⟩
        · have z1 : ((zs.length : Int) == 0) = false := beq_eq_false_iff_ne.2 (by have := List.length_pos_iff.2 hz; omega)
          have z2 : decide ((zs.length : Int) = 0) = false := decide_eq_false (by have := List.length_pos_iff.2 hz; omega)
          have z3 : (zs.length == 0) = false := beq_eq_false_iff_ne.2 (by have := List.length_pos_iff.2 hz; omega)
          have z4 : (zs.length = 0) = False := eq_false (by have := List.length_pos_iff.2 hz; omega)
          have z5 : (zs = []) = False := eq_false hz
          have hm := HM.out
          rw [if_neg (c := zs = []) hz] at HRD
          clear hz
          by_cases hlong : wMost m < L
          · rw [if_pos hlong] at HRD
            have h1 : m = 3 → (131072 < L) := fun e => by subst e; exact hlong
            have h2 : m ≠ 3 → (4096 < L) := fun e => by unfold wMost at hlong; rw [if_neg e] at hlong; exact hlong
            clear hlong
            rcases H4.out with rfl | rfl | rfl | rfl
            · have h3 := h2 (by decide)
              have g1 : decide ((4096 : Int) < (L : Int)) = true := decide_eq_true (by omega)
              have g2 : decide (4096 < L) = true := decide_eq_true (by omega)
              clear h1 h2 h3
              go_wp2_with fail
              go_at_call 49
              refine HRD.out.mono ?_
              rintro e wf ⟨rfl, hb⟩
              have BF := Aside0.mk (B9.out.trans (hb.mono HSZ9.out))
              clear hb HRD
              go_wp2_with fail
              go_ret
              rw [HBO.out]
              exact ⟨rfl, BF.out⟩
            · have h3 := h2 (by decide)
              have g1 : decide ((4096 : Int) < (L : Int)) = true := decide_eq_true (by omega)
              have g2 : decide (4096 < L) = true := decide_eq_true (by omega)
              clear h1 h2 h3
              go_wp2_with fail
              go_at_call 49
              refine HRD.out.mono ?_
              rintro e wf ⟨rfl, hb⟩
              have BF := Aside0.mk (B9.out.trans (hb.mono HSZ9.out))
              clear hb HRD
              go_wp2_with fail
              go_ret
              rw [HBO.out]
              exact ⟨rfl, BF.out⟩
            · have h3 := h2 (by decide)
              have g1 : decide ((4096 : Int) < (L : Int)) = true := decide_eq_true (by omega)
              have g2 : decide (4096 < L) = true := decide_eq_true (by omega)
              clear h1 h2 h3
              go_wp2_with fail
              go_at_call 49
              refine HRD.out.mono ?_
              rintro e wf ⟨rfl, hb⟩
              have BF := Aside0.mk (B9.out.trans (hb.mono HSZ9.out))
              clear hb HRD
              go_wp2_with fail
              go_ret
              rw [HBO.out]
              exact ⟨rfl, BF.out⟩
            · have h3 := h1 rfl
              have g1 : decide ((131072 : Int) < (L : Int)) = true := decide_eq_true (by omega)
              have g2 : decide (131072 < L) = true := decide_eq_true (by omega)
              clear h1 h2 h3
              go_wp2_with fail
              go_at_call 49
              refine HRD.out.mono ?_
              rintro e wf ⟨rfl, hb⟩
              have BF := Aside0.mk (B9.out.trans (hb.mono HSZ9.out))
              clear hb HRD
              go_wp2_with fail
              go_ret
              rw [HBO.out]
              exact ⟨rfl, BF.out⟩
          · rw [if_neg hlong] at HRD
            have h1 : L ≤ 131072 := by unfold wMost at hlong; split at hlong <;> omega
            have h2 : m ≠ 3 → L ≤ 4096 := fun e => by unfold wMost at hlong; rw [if_neg e] at hlong; omega
            have g3 : decide ((131072 : Int) < (L : Int)) = false := decide_eq_false (by omega)
            have g4 : decide (131072 < L) = false := decide_eq_false (by omega)
            have g5 : ((P.length : Int) == (P.length : Int)) = true := by simp
            clear hlong h1
            rcases H4.out with rfl | rfl | rfl | rfl
            · have h3 := h2 (by decide)
              have g1 : decide ((4096 : Int) < (L : Int)) = false := decide_eq_false (by omega)
              have g2 : decide (4096 < L) = false := decide_eq_false (by omega)
              clear h2 h3
              go_wp2_with fail
              go_at_call 49
              refine HRD.out.mono ?_
              rintro e wf ⟨rfl, hb⟩
              have BF := Aside0.mk (B9.out.trans (hb.mono HSZ9.out))
              clear hb HRD
              go_wp2_with fail
              go_ret
              rw [HBO.out]
              exact ⟨rfl, BF.out⟩
            · have h3 := h2 (by decide)
              have g1 : decide ((4096 : Int) < (L : Int)) = false := decide_eq_false (by omega)
              have g2 : decide (4096 < L) = false := decide_eq_false (by omega)
              clear h2 h3
              go_wp2_with fail
              go_at_call 49
              refine HRD.out.mono ?_
              rintro e wf ⟨rfl, hb⟩
              have BF := Aside0.mk (B9.out.trans (hb.mono HSZ9.out))
              clear hb HRD
              go_wp2_with fail
              go_ret
              rw [HBO.out]
              exact ⟨rfl, BF.out⟩
            · have h3 := h2 (by decide)
              have g1 : decide ((4096 : Int) < (L : Int)) = false := decide_eq_false (by omega)
              have g2 : decide (4096 < L) = false := decide_eq_false (by omega)
              clear h2 h3
              go_wp2_with fail
              go_at_call 49
              refine HRD.out.mono ?_
              rintro e wf ⟨rfl, hb⟩
              have BF := Aside0.mk (B9.out.trans (hb.mono HSZ9.out))
              clear hb HRD
              go_wp2_with fail
              go_ret
              rw [HBO.out]
              exact ⟨rfl, BF.out⟩
            · clear h2
              go_wp2_with fail
              go_at_call 49
              refine HRD.out.mono ?_
              rintro e wf ⟨rfl, hb⟩
              have BF := Aside0.mk (B9.out.trans (hb.mono HSZ9.out))
              clear hb HRD
              go_wp2_with fail
              go_ret
              rw [HBO.out]
              exact ⟨rfl, BF.out⟩
end Go.Proofs.Ytafmoglaockepaa.Cd
end
