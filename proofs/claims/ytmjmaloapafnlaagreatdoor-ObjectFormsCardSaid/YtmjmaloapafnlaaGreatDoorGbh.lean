import Derived.Test.YtmjmaloapafnlaaGreatDoorGbg
namespace Go.Proofs.YtmjmaloapafnlaaGreatDoor
open Tryz
open Go Go.Mv
set_option maxRecDepth 8000
theorem one7_ok {ys b r : List UInt8} (h : rawD 1 ys = .ok b r) : oneM (some ys) = (((gt b 0).toNat : Int), some r) := by
  have hl := rawD_len h
  have e : getM [] (rawD 1) (some ys) = (b, some r) := by simp [getM, h]
  rw [oneM, e, ← oneZ_1 (l := b) (by omega)]
theorem one7_err {ys : List UInt8} {e : Int} (h : rawD 1 ys = .err e) : oneM (some ys) = (0, none) := by
  have e : getM [] (rawD 1) (some ys) = ([], none) := by simp [getM, h]
  rw [oneM, e]; rfl
theorem id7_ok {ys r : List UInt8} {x : Nat → Int} (h : idD ys = .ok x r) : idM (some ys) = (x, some r) := by
  unfold idD at h
  split at h
  · rename_i b r' hb
    injection h with h1 h2; subst h1; subst h2
    have e : getM [] (rawD 32) (some ys) = (b, some r') := by simp [getM, hb]
    rw [idM, e]
  · cases h
theorem id7_err {ys : List UInt8} {e : Int} (h : idD ys = .err e) : (idM (some ys)).2 = none := by
  unfold idD at h
  split at h
  · cases h
  · rename_i hb
    simp [idM, getM, hb]
theorem msg7_ok {ys r : List UInt8} {x : ByteArray} (h : msgD ys = .ok x r) : textM (some ys) = (x, some r) := by
  unfold msgD at h
  split at h
  · rename_i b r' hb
    injection h with h1 h2; subst h1; subst h2
    have e : getM [] (bytesD 4000) (some ys) = (b, some r') := by simp [getM, hb]
    rw [textM, e]
  · cases h
theorem msg7_err {ys : List UInt8} {e : Int} (h : msgD ys = .err e) : (textM (some ys)).2 = none := by
  unfold msgD at h
  split at h
  · cases h
  · rename_i hb
    simp [textM, getM, hb]
theorem idM_none : (idM none).2 = none := rfl
theorem textM_none : (textM none).2 = none := rfl
theorem sevL_none {α : Type} {f : Option (List UInt8) → α × Option (List UInt8)} : ∀ n : Nat, (sevL f n none).2 = none
  | 0 => rfl
  | _ + 1 => rfl
theorem sevM_none {α : Type} {f : Option (List UInt8) → α × Option (List UInt8)} {m : Nat} : (sevM f m none).2 = none := sevL_none _
theorem ent7_ok {ys r : List UInt8} {x : Ent} (h : ent7D ys = .ok x r) : entM (some ys) = (x, some r) := by
  unfold ent7D at h
  split at h
  · cases h
  · rename_i t r1 h1
    split at h
    · cases h
    · rename_i b r2 h2
      split at h
      · cases h
      · rename_i i r3 h3
        injection h with e1 e2; subst e1; subst e2
        simp only [entM, msg7_ok h1, one7_ok h2, id7_ok h3]
theorem ent7_err {ys : List UInt8} {e : Int} (h : ent7D ys = .err e) : (entM (some ys)).2 = none := by
  unfold ent7D at h
  split at h
  · rename_i h1
    have e1 := msg7_err h1
    simp only [entM, e1]; rfl
  · rename_i t r1 h1
    split at h
    · rename_i h2
      simp only [entM, msg7_ok h1, one7_err h2]; rfl
    · rename_i b r2 h2
      split at h
      · rename_i h3
        simp only [entM, msg7_ok h1, one7_ok h2, id7_err h3]
      · cases h
theorem num7 {α : Type} {f : Option (List UInt8) → α × Option (List UInt8)} {m n : Nat} {ys r : List UInt8} (h : numD m ys = .ok n r) : sevM f m (some ys) = sevL f n (some r) := by
  have e : getM 0 (numD m) (some ys) = (n, some r) := by simp [getM, h]
  rw [sevM, e]
theorem num7_err {α : Type} {f : Option (List UInt8) → α × Option (List UInt8)} {m : Nat} {e : Int} {ys : List UInt8} (h : numD m ys = .err e) : (sevM f m (some ys)).2 = none := by
  have e : getM 0 (numD m) (some ys) = (0, none) := by simp [getM, h]
  rw [sevM, e]; rfl
section
variable {b kb r : List UInt8} (h1 : rawD 1 b = .ok kb r)
include h1
theorem rd_1 {d r2 : List UInt8} (hk : ((gt kb 0).toNat : Int) = 1) (h2 : bytesD 1024 r = .ok d r2) : readO (some b) = ((⟨((gt kb 0).toNat : Int), d, [], (fun _ => 0), [], (⟨0, (fun _ => 0)⟩ : Lnk), ⟨#[]⟩⟩ : Ob), some r2) := by
  have e : getM [] (bytesD 1024) (some r) = (d, some r2) := by simp [getM, h2]
  simp only [readO, one7_ok h1, if_pos hk, e]
theorem rd_1e {e : Int} (hk : ((gt kb 0).toNat : Int) = 1) (h2 : bytesD 1024 r = .err e) : (readO (some b)).2 = none := by
  simp only [readO, one7_ok h1, if_pos hk]
  simp [getM, h2]
theorem rd_2 {n : Nat} {es : List Ent} {r2 r3 : List UInt8} (hk1 : ¬ ((gt kb 0).toNat : Int) = 1) (hk : ((gt kb 0).toNat : Int) = 2) (h2 : numD 32 r = .ok n r2) (hs : sevL entM n (some r2) = (es, some r3)) : readO (some b) = ((⟨((gt kb 0).toNat : Int), [], es, (fun _ => 0), [], (⟨0, (fun _ => 0)⟩ : Lnk), ⟨#[]⟩⟩ : Ob), some r3) := by
  simp only [readO, one7_ok h1, if_neg hk1, if_pos hk, num7 h2, hs]
theorem rd_2n {e : Int} (hk1 : ¬ ((gt kb 0).toNat : Int) = 1) (hk : ((gt kb 0).toNat : Int) = 2) (h2 : numD 32 r = .err e) : (readO (some b)).2 = none := by
  simp only [readO, one7_ok h1, if_neg hk1, if_pos hk, num7_err h2]
theorem rd_2e {n : Nat} {r2 : List UInt8} (hk1 : ¬ ((gt kb 0).toNat : Int) = 1) (hk : ((gt kb 0).toNat : Int) = 2) (h2 : numD 32 r = .ok n r2) (hs : (sevL entM n (some r2)).2 = none) : (readO (some b)).2 = none := by
  simp only [readO, one7_ok h1, if_neg hk1, if_pos hk, num7 h2, hs]
theorem rd_3 {n : Nat} {t : Nat → Int} {ps : List (Nat → Int)} {m : ByteArray} {r2 r3 r4 r5 : List UInt8} (hk1 : ¬ ((gt kb 0).toNat : Int) = 1) (hk2 : ¬ ((gt kb 0).toNat : Int) = 2) (hk : ((gt kb 0).toNat : Int) = 3) (h2 : idD r = .ok t r2) (h3 : numD 4 r2 = .ok n r3) (hs : sevL idM n (some r3) = (ps, some r4)) (h4 : msgD r4 = .ok m r5) : readO (some b) = ((⟨((gt kb 0).toNat : Int), [], [], t, ps, (⟨0, (fun _ => 0)⟩ : Lnk), m⟩ : Ob), some r5) := by
  simp only [readO, one7_ok h1, if_neg hk1, if_neg hk2, if_pos hk, id7_ok h2, num7 h3, hs, msg7_ok h4]
theorem rd_3i {e : Int} (hk1 : ¬ ((gt kb 0).toNat : Int) = 1) (hk2 : ¬ ((gt kb 0).toNat : Int) = 2) (hk : ((gt kb 0).toNat : Int) = 3) (h2 : idD r = .err e) : (readO (some b)).2 = none := by
  simp only [readO, one7_ok h1, if_neg hk1, if_neg hk2, if_pos hk, id7_err h2, sevM_none, textM_none]
theorem rd_3n {e : Int} {t : Nat → Int} {r2 : List UInt8} (hk1 : ¬ ((gt kb 0).toNat : Int) = 1) (hk2 : ¬ ((gt kb 0).toNat : Int) = 2) (hk : ((gt kb 0).toNat : Int) = 3) (h2 : idD r = .ok t r2) (h3 : numD 4 r2 = .err e) : (readO (some b)).2 = none := by
  simp only [readO, one7_ok h1, if_neg hk1, if_neg hk2, if_pos hk, id7_ok h2, num7_err h3, textM_none]
theorem rd_3s {n : Nat} {t : Nat → Int} {r2 r3 : List UInt8} (hk1 : ¬ ((gt kb 0).toNat : Int) = 1) (hk2 : ¬ ((gt kb 0).toNat : Int) = 2) (hk : ((gt kb 0).toNat : Int) = 3) (h2 : idD r = .ok t r2) (h3 : numD 4 r2 = .ok n r3) (hs : (sevL idM n (some r3)).2 = none) : (readO (some b)).2 = none := by
  simp only [readO, one7_ok h1, if_neg hk1, if_neg hk2, if_pos hk, id7_ok h2, num7 h3, hs, textM_none]
theorem rd_3m {n : Nat} {e : Int} {t : Nat → Int} {ps : List (Nat → Int)} {r2 r3 r4 : List UInt8} (hk1 : ¬ ((gt kb 0).toNat : Int) = 1) (hk2 : ¬ ((gt kb 0).toNat : Int) = 2) (hk : ((gt kb 0).toNat : Int) = 3) (h2 : idD r = .ok t r2) (h3 : numD 4 r2 = .ok n r3) (hs : sevL idM n (some r3) = (ps, some r4)) (h4 : msgD r4 = .err e) : (readO (some b)).2 = none := by
  simp only [readO, one7_ok h1, if_neg hk1, if_neg hk2, if_pos hk, id7_ok h2, num7 h3, hs, msg7_err h4]
theorem rd_4 {tb : List UInt8} {t : Nat → Int} {m : ByteArray} {r2 r3 r4 : List UInt8} (hk1 : ¬ ((gt kb 0).toNat : Int) = 1) (hk2 : ¬ ((gt kb 0).toNat : Int) = 2) (hk3 : ¬ ((gt kb 0).toNat : Int) = 3) (hk : ((gt kb 0).toNat : Int) = 4) (h2 : rawD 1 r = .ok tb r2) (h3 : idD r2 = .ok t r3) (h4 : msgD r3 = .ok m r4) : readO (some b) = ((⟨((gt kb 0).toNat : Int), [], [], (fun _ => 0), [], (⟨((gt tb 0).toNat : Int), t⟩ : Lnk), m⟩ : Ob), some r4) := by
  simp only [readO, one7_ok h1, if_neg hk1, if_neg hk2, if_neg hk3, if_pos hk, one7_ok h2, id7_ok h3, msg7_ok h4]
theorem rd_4a {e : Int} (hk1 : ¬ ((gt kb 0).toNat : Int) = 1) (hk2 : ¬ ((gt kb 0).toNat : Int) = 2) (hk3 : ¬ ((gt kb 0).toNat : Int) = 3) (hk : ((gt kb 0).toNat : Int) = 4) (h2 : rawD 1 r = .err e) : (readO (some b)).2 = none := by
  simp only [readO, one7_ok h1, if_neg hk1, if_neg hk2, if_neg hk3, if_pos hk, one7_err h2, idM_none, textM_none]
theorem rd_4b {e : Int} {tb r2 : List UInt8} (hk1 : ¬ ((gt kb 0).toNat : Int) = 1) (hk2 : ¬ ((gt kb 0).toNat : Int) = 2) (hk3 : ¬ ((gt kb 0).toNat : Int) = 3) (hk : ((gt kb 0).toNat : Int) = 4) (h2 : rawD 1 r = .ok tb r2) (h3 : idD r2 = .err e) : (readO (some b)).2 = none := by
  simp only [readO, one7_ok h1, if_neg hk1, if_neg hk2, if_neg hk3, if_pos hk, one7_ok h2, id7_err h3, textM_none]
theorem rd_4c {e : Int} {tb : List UInt8} {t : Nat → Int} {r2 r3 : List UInt8} (hk1 : ¬ ((gt kb 0).toNat : Int) = 1) (hk2 : ¬ ((gt kb 0).toNat : Int) = 2) (hk3 : ¬ ((gt kb 0).toNat : Int) = 3) (hk : ((gt kb 0).toNat : Int) = 4) (h2 : rawD 1 r = .ok tb r2) (h3 : idD r2 = .ok t r3) (h4 : msgD r3 = .err e) : (readO (some b)).2 = none := by
  simp only [readO, one7_ok h1, if_neg hk1, if_neg hk2, if_neg hk3, if_pos hk, one7_ok h2, id7_ok h3, msg7_err h4]
theorem rd_0 (hk1 : ¬ ((gt kb 0).toNat : Int) = 1) (hk2 : ¬ ((gt kb 0).toNat : Int) = 2) (hk3 : ¬ ((gt kb 0).toNat : Int) = 3) (hk : ¬ ((gt kb 0).toNat : Int) = 4) : readO (some b) = ((⟨((gt kb 0).toNat : Int), [], [], (fun _ => 0), [], (⟨0, (fun _ => 0)⟩ : Lnk), ⟨#[]⟩⟩ : Ob), some r) := by
  simp only [readO, one7_ok h1, if_neg hk1, if_neg hk2, if_neg hk3, if_neg hk]
end
theorem rd_0e {b : List UInt8} {e : Int} (h : rawD 1 b = .err e) : (readO (some b)).2 = none := by
  simp only [readO, one7_err h]
  rw [if_neg (by decide), if_neg (by decide), if_neg (by decide), if_neg (by decide)]
theorem readO_ok (o : Option (List UInt8)) : ObOk (readO o).1 := by
  unfold readO
  split
  · exact ok_k1 _ _
  split
  · exact ok_k2 _ _
  split
  · exact ok_k3 _ _ _ _
  split
  · exact ok_k4 _ _ _ _
  · exact ok_k0 _
theorem rdok {b r : List UInt8} {x : Ob} (h : readO (some b) = (x, some r)) : ObOk x := by
  have h2 := readO_ok (some b)
  rw [h] at h2; exact h2
theorem p7_none {b : List UInt8} (h : (readO (some b)).2 = none) : parseM b = none := by
  unfold parseM
  rcases hq : readO (some b) with ⟨x, o⟩
  rw [hq] at h
  simp only at h
  subst h; rfl
theorem p7_ok {b r : List UInt8} {x : Ob} (h : readO (some b) = (x, some r)) (hok : obOkB x = true) (hb : obB x = b) : parseM b = some x := by
  have h2 := read_back hok (rdok h)
  rw [hb, h] at h2
  simp only [Prod.mk.injEq, Option.some.injEq] at h2
  obtain ⟨_, rfl⟩ := h2
  unfold parseM
  rw [h]
  show (if obOkB x = true then some x else none) = some x
  rw [if_pos hok]
theorem p7_bad {b r : List UInt8} {x : Ob} (h : readO (some b) = (x, some r)) (hc : obOkB x = false ∨ ¬ obB x = b) : parseM b = none := by
  cases hp : parseM b with
  | none => rfl
  | some y =>
    exfalso
    obtain ⟨q1, q2⟩ := parse_back hp
    have : y = x := by
      unfold parseM at hp
      rw [h] at hp
      rcases r with _ | ⟨c, r⟩
      · simp only at hp
        split at hp
        · exact (Option.some.inj hp).symm
        · cases hp
      · simp at hp
    subst this
    rcases hc with hc | hc
    · rw [hc] at q2; cases q2
    · exact hc q1

section
variable {α : Type} {f : Option (List UInt8) → α × Option (List UInt8)} {n i : Nat} {wr e0 : Int} {acc : List α} {ys r0 : List UInt8}
abbrev SevJ (f : Option (List UInt8) → α × Option (List UInt8)) (n i : Nat) (r0 : List UInt8) (e0 : Int) (acc : List α) (ys : List UInt8) (wr : Int) : Prop := (wr = 0 ∧ e0 = 0 ∧ sevL f n (some r0) = (acc ++ (sevL f (n - i) (some ys)).1, (sevL f (n - i) (some ys)).2)) ∨ ((0 < wr ∧ wr ≤ 600) ∧ (¬ e0 = 0 ∨ (sevL f n (some r0)).2 = none))
theorem sevJ_0 (h : 0 ≤ e0 ∧ e0 ≤ 600) : SevJ f n 0 r0 e0 [] r0 e0 := by
  by_cases h0 : e0 = 0
  · exact .inl ⟨h0, h0, rfl⟩
  · exact .inr ⟨by omega, .inl h0⟩
theorem sevJ_go {d : Dr α} {z x : α} {e : Int} {r : List UInt8} (h : SevJ f n i r0 e0 acc ys wr) (hc : (i : Int) < (n : Int) ∧ wr = 0) (hd : RdU d z x e r) (hf : ∀ x r, d = .ok x r → f (some ys) = (x, some r)) (hb : ∀ e, d = .err e → (f (some ys)).2 = none) : SevJ f n (i + 1) r0 e0 (acc ++ [x]) r e := by
  rcases h with ⟨_, h0, h⟩ | ⟨h, _⟩
  · obtain ⟨m, hm⟩ : ∃ m, n - i = m + 1 := ⟨n - i - 1, by omega⟩
    rcases hd with ⟨he, hd⟩ | ⟨he, ⟨g, hd⟩, _⟩
    · refine .inl ⟨he, h0, ?_⟩
      rw [h, hm, show n - (i + 1) = m from by omega, sevL, hf _ _ hd]
      simp
    · refine .inr ⟨by omega, .inr ?_⟩
      rw [h, hm, sevL, hb _ hd]
      exact sevL_none _
  · omega
theorem sevJ_end (h : SevJ f n i r0 e0 acc ys wr) (hc : ¬ (i : Int) < (n : Int) ∨ ¬ wr = 0) : (wr = 0 ∧ e0 = 0 ∧ sevL f n (some r0) = (acc, some ys)) ∨ ((0 < wr ∧ wr ≤ 600) ∧ (¬ e0 = 0 ∨ (sevL f n (some r0)).2 = none)) := by
  rcases h with ⟨h1, h0, h⟩ | h
  · refine .inl ⟨h1, h0, ?_⟩
    rw [h, show n - i = 0 from by omega]; simp [sevL]
  · exact .inr h
end
theorem numU_le {m n : Nat} {ys r : List UInt8} {e : Int} (h : RdU (numD m ys) 0 n e r) : n ≤ m := by
  rcases h with ⟨_, h⟩ | ⟨_, _, rfl⟩
  · exact numD_le h
  · exact Nat.zero_le _
/-- What read answers: the object that readO tells, or an error. -/
def RdR (b : List UInt8) (x : Ob) (e : Int) : Prop := (e = 0 ∧ ∃ r, readO (some b) = (x, some r)) ∨ ((0 < e ∧ e ≤ 1000) ∧ (readO (some b)).2 = none)
theorem RdR.no {b kb r : List UInt8} {x : Ob} {e : Int} (h : RdU (rawD 1 b) [] kb e r) (he : ¬ e = 0) : RdR b x 70 := by
  obtain ⟨f, h⟩ := h.bad he
  exact .inr ⟨by omega, rd_0e h⟩
theorem RdR.bad {b : List UInt8} {x : Ob} {e : Int} (h : RdR b x e) (he : ¬ e = 0) : parseM b = none := by
  rcases h with ⟨h, _⟩ | ⟨_, h⟩
  · exact absurd h he
  · exact p7_none h
theorem RdR.ob {b : List UInt8} {x : Ob} {e : Int} (h : RdR b x e) (he : e = 0) : ObOk x := by
  rcases h with ⟨_, r, h⟩ | ⟨h, _⟩
  · exact rdok h
  · omega
theorem RdR.yes {b : List UInt8} {x : Ob} {e : Int} (h : RdR b x e) (he : e = 0) (hok : err (obOkB x) 70 = 0) (hb : obB x = b) : parseM b = some x := by
  rcases h with ⟨_, r, h⟩ | ⟨h, _⟩
  · exact p7_ok h (err0 hok) hb
  · omega
theorem RdR.not {b : List UInt8} {x : Ob} {e : Int} (h : RdR b x e) (he : e = 0) (hc : ¬ err (obOkB x) 70 = 0 ∨ ¬ obB x = b) : parseM b = none := by
  rcases h with ⟨_, r, h⟩ | ⟨h, _⟩
  · refine p7_bad h ?_
    rcases hc with hc | hc
    · exact .inl (err1 hc)
    · exact .inr hc
  · omega
section
variable {b kb r : List UInt8} (h1 : rawD 1 b = .ok kb r)
include h1
theorem rdU_0 {e : Int} (he : e = 0) (hk1 : ¬ ((gt kb 0).toNat : Int) = 1) (hk2 : ¬ ((gt kb 0).toNat : Int) = 2) (hk3 : ¬ ((gt kb 0).toNat : Int) = 3) (hk : ¬ ((gt kb 0).toNat : Int) = 4) : RdR b (⟨((gt kb 0).toNat : Int), [], [], (fun _ => 0), [], (⟨0, (fun _ => 0)⟩ : Lnk), ⟨#[]⟩⟩ : Ob) e := .inl ⟨he, r, rd_0 h1 hk1 hk2 hk3 hk⟩
theorem rdU_1 {d r2 : List UInt8} {e : Int} (hk : ((gt kb 0).toNat : Int) = 1) (h2 : RdU (bytesD 1024 r) [] d e r2) : RdR b (⟨((gt kb 0).toNat : Int), d, [], (fun _ => 0), [], (⟨0, (fun _ => 0)⟩ : Lnk), ⟨#[]⟩⟩ : Ob) e := by
  rcases h2 with ⟨h0, h2⟩ | ⟨h0, ⟨f, h2⟩, _⟩
  · exact .inl ⟨h0, r2, rd_1 h1 hk h2⟩
  · exact .inr ⟨by omega, rd_1e h1 hk h2⟩
theorem rdU_2 {n : Nat} {es : List Ent} {r2 ys : List UInt8} {e wr : Int} (hk1 : ¬ ((gt kb 0).toNat : Int) = 1) (hk : ((gt kb 0).toNat : Int) = 2) (h2 : RdU (numD 32 r) 0 n e r2) (hs : (wr = 0 ∧ e = 0 ∧ sevL entM n (some r2) = (es, some ys)) ∨ ((0 < wr ∧ wr ≤ 600) ∧ (¬ e = 0 ∨ (sevL entM n (some r2)).2 = none))) : RdR b (⟨((gt kb 0).toNat : Int), [], es, (fun _ => 0), [], (⟨0, (fun _ => 0)⟩ : Lnk), ⟨#[]⟩⟩ : Ob) wr := by
  rcases hs with ⟨hw, he, hs⟩ | ⟨hw, hs⟩
  · exact .inl ⟨hw, ys, rd_2 h1 hk1 hk (h2.ok he) hs⟩
  · refine .inr ⟨by omega, ?_⟩
    by_cases he : e = 0
    · exact rd_2e h1 hk1 hk (h2.ok he) (hs.resolve_left (fun h => h he))
    · obtain ⟨f, h⟩ := h2.bad he
      exact rd_2n h1 hk1 hk h
section
variable (hk1 : ¬ ((gt kb 0).toNat : Int) = 1) (hk2 : ¬ ((gt kb 0).toNat : Int) = 2)
include hk1 hk2
section
variable {n : Nat} {t : Nat → Int} {ps : List (Nat → Int)} {r2 r3 ys : List UInt8} {e2 e3 wr : Int} (hk : ((gt kb 0).toNat : Int) = 3) (h2 : RdU (idD r) (fun _ => 0) t e2 r2) (h3 : RdU (numD 4 r2) 0 n e3 r3) (hs : (wr = 0 ∧ e2 + e3 = 0 ∧ sevL idM n (some r3) = (ps, some ys)) ∨ ((0 < wr ∧ wr ≤ 600) ∧ (¬ e2 + e3 = 0 ∨ (sevL idM n (some r3)).2 = none)))
include hk h2 h3 hs
theorem rdU_3 {m : ByteArray} {r5 : List UInt8} {e4 : Int} (hw : wr = 0) (h4 : RdU (msgD ys) ⟨#[]⟩ m e4 r5) : RdR b (⟨((gt kb 0).toNat : Int), [], [], t, ps, (⟨0, (fun _ => 0)⟩ : Lnk), m⟩ : Ob) e4 := by
  have g2 := h2.rng; have g3 := h3.rng
  rcases hs with ⟨_, he, hs⟩ | ⟨h, _⟩
  · rcases h4 with ⟨h0, h4⟩ | ⟨h0, ⟨f, h4⟩, _⟩
    · exact .inl ⟨h0, r5, rd_3 h1 hk1 hk2 hk (h2.ok (by omega)) (h3.ok (by omega)) hs h4⟩
    · exact .inr ⟨by omega, rd_3m h1 hk1 hk2 hk (h2.ok (by omega)) (h3.ok (by omega)) hs h4⟩
  · omega
theorem rdU_3n {x : Ob} (hw : ¬ wr = 0) : RdR b x wr := by
  have g2 := h2.rng; have g3 := h3.rng
  rcases hs with ⟨h, _⟩ | ⟨h, hs⟩
  · exact absurd h hw
  · refine .inr ⟨by omega, ?_⟩
    by_cases c2 : e2 = 0
    · by_cases c3 : e3 = 0
      · exact rd_3s h1 hk1 hk2 hk (h2.ok c2) (h3.ok c3) (hs.resolve_left (fun h => h (by omega)))
      · obtain ⟨f, h⟩ := h3.bad c3
        exact rd_3n h1 hk1 hk2 hk (h2.ok c2) h
    · obtain ⟨f, h⟩ := h2.bad c2
      exact rd_3i h1 hk1 hk2 hk h
end
section
variable {tb : List UInt8} {t : Nat → Int} {m : ByteArray} {r2 r3 r4 : List UInt8} {e2 e3 e4 : Int} (hk3 : ¬ ((gt kb 0).toNat : Int) = 3) (hk : ((gt kb 0).toNat : Int) = 4) (h2 : RdU (rawD 1 r) [] tb e2 r2) (h3 : RdU (idD r2) (fun _ => 0) t e3 r3) (h4 : RdU (msgD r3) ⟨#[]⟩ m e4 r4)
include hk3 hk h2 h3 h4
theorem rdU_4 (hs : e2 + e3 + e4 = 0) : RdR b (⟨((gt kb 0).toNat : Int), [], [], (fun _ => 0), [], (⟨((gt tb 0).toNat : Int), t⟩ : Lnk), m⟩ : Ob) (e2 + e3 + e4) := by
  have g2 := h2.rng; have g3 := h3.rng; have g4 := h4.rng
  exact .inl ⟨hs, r4, rd_4 h1 hk1 hk2 hk3 hk (h2.ok (by omega)) (h3.ok (by omega)) (h4.ok (by omega))⟩
theorem rdU_4n {x : Ob} (hs : ¬ e2 + e3 + e4 = 0) : RdR b x (e2 + e3 + e4) := by
  have g2 := h2.rng; have g3 := h3.rng; have g4 := h4.rng
  refine .inr ⟨by omega, ?_⟩
  by_cases c2 : e2 = 0
  · by_cases c3 : e3 = 0
    · obtain ⟨f, h⟩ := h4.bad (by omega)
      exact rd_4c h1 hk1 hk2 hk3 hk (h2.ok c2) (h3.ok c3) h
    · obtain ⟨f, h⟩ := h3.bad c3
      exact rd_4b h1 hk1 hk2 hk3 hk (h2.ok c2) h
  · obtain ⟨f, h⟩ := h2.bad c2
    exact rd_4a h1 hk1 hk2 hk3 hk h
end
end
end
theorem c_r7Read (bv : Value) (b : List UInt8) (HX : Mem) (w : World) (hbb : Rdb HX bv b) (hlb : b.length ≤ 1000000) (hH : Hp HX w) : Calls Tryz.prog 90 #[bv] w (Ret w [] fun v H1 => ∃ x e s1 s2 s3, RdR b x e ∧ BldOk 1 (byteC) x.data s1 ∧ BldOk 34 (entC) x.ents s2 ∧ BldOk 32 (idC) x.pars s3 ∧ v = .tuple #[objV x (bldVx x.data s1) (bldVx x.ents s2) (bldVx x.pars s3), .int .i64 e] ∧ H1 = (bldMx 5 (byteC) x.data s1 ++ (bldMx 113 (entC) x.ents s2 ++ bldMx 36 (idC) x.pars s3))) := by
 refine fn_enter (args := [_]) func90 rfl ntmps90 rfl hH (sq (pl (TE_allocC (objV (⟨0, [], [], (fun _ => 0), [], (⟨0, (fun _ => 0)⟩ : Lnk), ⟨#[]⟩⟩ : Ob) (.slice none 0 0) (.slice none 0 0) (.slice none 0 0)).cells rfl zeroValue48 rfl trivial rfl fun b2 hb2 => (qa rfl (n0 (sq (pl (qm rfl (cG rfl call75 (fun w hw => c_twin7 bv b HX w hbb.s hlb hw.s) ?_)))))))))
 rintro v5 H6 ⟨st1, hbo2, rfl, rfl⟩ hX3
 have hRD4 := hbo2.rdx (u := 5) byteC_len
 refine tsp ((b2, .cells (objV (⟨0, [], [], (fun _ => 0), [], (⟨0, (fun _ => 0)⟩ : Lnk), ⟨#[]⟩⟩ : Ob) (.slice none 0 0) (.slice none 0 0) (.slice none 0 0)).cells 48 (0, 0)) :: ((bldMx 5 (byteC) b st1) ++ HX)) (qq rfl (RD.build (v := .agg #[bldVx b st1]) rfl (fun w => by obtain ⟨a0, c0, e0⟩ := (hRD4).shape; rw [e0]; kernel_rfl)) (TE_boxC #[bldVx b st1] rfl rfl rfl trivial rfl fun b29 hb29 => (qa rfl (n0 (sq (pl (qm rfl (cM ((b29, .cells #[bldVx b st1] 223 (0, 0)) :: (bldMx 5 byteC b st1)) ((b2, .cells (objV (⟨0, [], [], (fun _ => 0), [], (⟨0, (fun _ => 0)⟩ : Lnk), ⟨#[]⟩⟩ : Ob) (.slice none 0 0) (.slice none 0 0) (.slice none 0 0)).cells 48 (0, 0)) :: HX) rfl call139 (ownC (.inl hb29) (ownN hX3)) (fun w hw => c_r01Raw (bldMx 5 byteC b st1) b29 (bldVx b st1) b 1 w ((Rdb.of_x hRD4).mono sb) hlb (by omega) hw.s) ?_))))))))
 rintro v18 H19 ⟨x8, e9, r10, sv11, st12, hu13, hbo16, hr14, hrl15, rfl, rfl⟩ hX7
 have hrghu13 := RdU.rng hu13
 have hRD17 := hbo16.rdx (u := 5) byteC_len
 refine tsp ((b29, .cells #[sv11] 223 (0, 0)) :: (b2, .cells (objV (⟨0, [], [], (fun _ => 0), [], (⟨0, (fun _ => 0)⟩ : Lnk), ⟨#[]⟩⟩ : Ob) (.slice none 0 0) (.slice none 0 0) (.slice none 0 0)).cells 48 (0, 0)) :: ((bldMx 5 (byteC) x8 st12) ++ ((bldMx 5 (byteC) b st1) ++ HX))) (qm rfl (qe rfl (qe rfl (qa rfl (qa rfl (n0 (sq (sq (pl ?_)))))))))
 refine qm rfl (qq rfl (RD.neq rfl rfl) (n0 (pn_condN rfl (fun hc20 => ?_) (fun hc20 => ?_))))
 ·exact sq (pl (qq rfl (RD.build (v := objV (⟨0, [], [], (fun _ => 0), [], (⟨0, (fun _ => 0)⟩ : Lnk), ⟨#[]⟩⟩ : Ob) (.slice none 0 0) (.slice none 0 0) (.slice none 0 0)) rfl (fun w => by kernel_rfl)) (TE_putCW 1 _ _ ((b29, .cells #[sv11] 223 (0, 0)) :: (b2, .cells (objV (⟨0, [], [], (fun _ => 0), [], (⟨0, (fun _ => 0)⟩ : Lnk), ⟨#[]⟩⟩ : Ob) (.slice none 0 0) (.slice none 0 0) (.slice none 0 0)).cells 48 (0, 0)) :: ((bldMx 5 byteC x8 st12) ++ ((bldMx 5 byteC b st1) ++ HX))) rfl sizeOf48 trivial rfl rfl rfl (objV_one _ _ _ _ rfl rfl rfl) rfl rfl rfl rfl (.inl hb2) (qa rfl (n0 (rt (pn_doneF rfl ⟨objV (⟨0, [], [], (fun _ => 0), [], (⟨0, (fun _ => 0)⟩ : Lnk), ⟨#[]⟩⟩ : Ob) (.slice none 0 0) (.slice none 0 0) (.slice none 0 0), _, b2, 0, rfl, rfl, load_agg (i := 1) isAgg48 sizeOf48 rfl (Nat.le_of_ble_eq_true rfl) (obj_all _ _ _ _), ⟨_, _, rfl, rfl, rfl⟩⟩ ⟨(⟨0, [], [], (fun _ => 0), [], (⟨0, (fun _ => 0)⟩ : Lnk), ⟨#[]⟩⟩ : Ob), _, none, none, none, RdR.no hu13 hc20, (show BldOk 1 byteC [] none from BldOk.nil), (show BldOk 34 entC [] none from BldOk.nil), (show BldOk 32 idC [] none from BldOk.nil), rfl, (show ([] : Mem) = _ from by simp [bldMx])⟩ (fun _ h => h.sp (fun _ => Nat.zero_le _)) (fun _ he => nomatch he))))))))
 ·refine sk (sq ?_)
  have h1l := rawD_len (RdU.ok hu13 (by omega))
  have hub := UInt8.toNat_lt (gt x8 0)
  refine pn_plain [3] rfl (qm rfl (qq rfl (RD.idxR (i := 0) (o := (0 * 1 + 0)) runUnderlying32 sizeOf5 rfl hRD17 rfl rfl (by omega) (by rfl)) (ql rfl (RD.ldR (i := 0) (j := 0) (u := .int .u8 ((gt x8 0).toNat : Int)) isAgg5 rfl hRD17 (gt_some (by omega)) (by rfl) rfl sb) (qq rfl (RD.convI runUnderlying5 runUnderlying3 rfl (by omega) (by omega)) (qq rfl (RD.build (v := objV (⟨((gt x8 0).toNat : Int), [], [], (fun _ => 0), [], (⟨0, (fun _ => 0)⟩ : Lnk), ⟨#[]⟩⟩ : Ob) (.slice none 0 0) (.slice none 0 0) (.slice none 0 0)) rfl (fun w => by kernel_rfl)) (TE_allocC (objV (⟨0, [], [], (fun _ => 0), [], (⟨0, (fun _ => 0)⟩ : Lnk), ⟨#[]⟩⟩ : Ob) (.slice none 0 0) (.slice none 0 0) (.slice none 0 0)).cells rfl zeroValue48 rfl trivial rfl fun b7 hb7 => (TE_putCW 0 _ _ ((b7, .cells (objV (⟨((gt x8 0).toNat : Int), [], [], (fun _ => 0), [], (⟨0, (fun _ => 0)⟩ : Lnk), ⟨#[]⟩⟩ : Ob) (.slice none 0 0) (.slice none 0 0) (.slice none 0 0)).cells 48 (0, 0)) :: (b29, .cells #[sv11] 223 (0, 0)) :: (b2, .cells (objV (⟨0, [], [], (fun _ => 0), [], (⟨0, (fun _ => 0)⟩ : Lnk), ⟨#[]⟩⟩ : Ob) (.slice none 0 0) (.slice none 0 0) (.slice none 0 0)).cells 48 (0, 0)) :: ((bldMx 5 byteC x8 st12) ++ ((bldMx 5 byteC b st1) ++ HX))) rfl sizeOf48 trivial rfl rfl rfl (objV_one _ _ _ _ rfl rfl rfl) rfl rfl rfl rfl (.inl hb7) (n0 (sq ?_)))))))))
  refine sq (pl (qq rfl (RD.fieldAddr (o := 0) runUnderlying48 rfl rfl sizeOf3 rfl) (ql rfl (RD.load (i := 0) (v := .int .i64 ((gt x8 0).toNat : Int)) isAgg3 rfl rfl rfl) (n0 (pn_block (sq (pl (qq rfl (RD.eql rfl rfl) (qa rfl ?_)))))))))
  refine n0 (pn_condD rfl (fun hc21 => ?_) (fun hc21 => ?_))
  ·refine pl (qm rfl (cM ((b29, .cells #[sv11] 223 (0, 0)) :: (bldMx 5 byteC b st1)) ((b7, .cells (objV (⟨((gt x8 0).toNat : Int), [], [], (fun _ => 0), [], (⟨0, (fun _ => 0)⟩ : Lnk), ⟨#[]⟩⟩ : Ob) (.slice none 0 0) (.slice none 0 0) (.slice none 0 0)).cells 48 (0, 0)) :: (b2, .cells (objV (⟨0, [], [], (fun _ => 0), [], (⟨0, (fun _ => 0)⟩ : Lnk), ⟨#[]⟩⟩ : Ob) (.slice none 0 0) (.slice none 0 0) (.slice none 0 0)).cells 48 (0, 0)) :: ((bldMx 5 byteC x8 st12) ++ HX)) rfl call140 (ownC (.inl hb29) (oC (oR hX7))) (fun w hw => c_r01Byt (bldMx 5 byteC b st1) b29 sv11 r10 1024 w hr14.s (by first | assumption | omega | (simp; done) | (simp; omega)) (by omega) hw.s) ?_))
   rintro v33 H34 ⟨x23, e24, r25, sv26, st27, hu28, hbo31, hr29, hrl30, rfl, rfl⟩ hX22
   have hrghu28 := RdU.rng hu28
   have hRD32 := hbo31.rdx (u := 5) byteC_len
   refine tsp ((b29, .cells #[sv26] 223 (0, 0)) :: (b7, .cells (objV (⟨((gt x8 0).toNat : Int), [], [], (fun _ => 0), [], (⟨0, (fun _ => 0)⟩ : Lnk), ⟨#[]⟩⟩ : Ob) (.slice none 0 0) (.slice none 0 0) (.slice none 0 0)).cells 48 (0, 0)) :: (b2, .cells (objV (⟨0, [], [], (fun _ => 0), [], (⟨0, (fun _ => 0)⟩ : Lnk), ⟨#[]⟩⟩ : Ob) (.slice none 0 0) (.slice none 0 0) (.slice none 0 0)).cells 48 (0, 0)) :: ((bldMx 5 (byteC) x23 st27) ++ ((bldMx 5 (byteC) b st1) ++ ((bldMx 5 (byteC) x8 st12) ++ HX)))) (qm rfl (qe rfl (qe rfl (qq rfl (RD.fieldAddr (o := 1) runUnderlying48 rfl rfl sizeOf32 rfl) (TE_storeC 1 _ _ ((b29, .cells #[sv26] 223 (0, 0)) :: (b7, .cells (objV (⟨((gt x8 0).toNat : Int), x23, [], (fun _ => 0), [], (⟨0, (fun _ => 0)⟩ : Lnk), ⟨#[]⟩⟩ : Ob) (bldVx x23 st27) (.slice none 0 0) (.slice none 0 0)).cells 48 (0, 0)) :: (b2, .cells (objV (⟨0, [], [], (fun _ => 0), [], (⟨0, (fun _ => 0)⟩ : Lnk), ⟨#[]⟩⟩ : Ob) (.slice none 0 0) (.slice none 0 0) (.slice none 0 0)).cells 48 (0, 0)) :: ((bldMx 5 byteC x23 st27) ++ ((bldMx 5 byteC b st1) ++ ((bldMx 5 byteC x8 st12) ++ HX)))) rfl sizeOf32 trivial rfl rfl (bvx_cells _ _) (bvx_one _ _) rfl rfl (put_obj_data _ _ _ _ _ _) rfl (.inl hb7) (qa rfl (n0 (sq (pl ?_)))))))))
   exact ql rfl (RD.loadA (i := 1) isAgg48 sizeOf48 rfl rfl (Nat.le_of_ble_eq_true rfl) (obj_all _ _ _ _)) (qm rfl (TE_putCW 2 _ _ ((b29, .cells #[sv26] 223 (0, 0)) :: (b7, .cells (objV (⟨((gt x8 0).toNat : Int), x23, [], (fun _ => 0), [], (⟨0, (fun _ => 0)⟩ : Lnk), ⟨#[]⟩⟩ : Ob) (bldVx x23 st27) (.slice none 0 0) (.slice none 0 0)).cells 48 (0, 0)) :: (b2, .cells (objV (⟨((gt x8 0).toNat : Int), x23, [], (fun _ => 0), [], (⟨0, (fun _ => 0)⟩ : Lnk), ⟨#[]⟩⟩ : Ob) (bldVx x23 st27) (.slice none 0 0) (.slice none 0 0)).cells 48 (0, 0)) :: ((bldMx 5 byteC x23 st27) ++ ((bldMx 5 byteC b st1) ++ ((bldMx 5 byteC x8 st12) ++ HX)))) rfl sizeOf48 trivial rfl rfl rfl (objV_one _ _ _ _ (bvx_one _ _) rfl rfl) rfl rfl rfl rfl (.inl hb2) (qa rfl (n0 (rt (pn_doneF rfl ⟨objV (⟨((gt x8 0).toNat : Int), x23, [], (fun _ => 0), [], (⟨0, (fun _ => 0)⟩ : Lnk), ⟨#[]⟩⟩ : Ob) (bldVx x23 st27) (.slice none 0 0) (.slice none 0 0), _, b2, 0, rfl, rfl, load_agg (i := 2) isAgg48 sizeOf48 rfl (Nat.le_of_ble_eq_true rfl) (obj_all _ _ _ _), ⟨_, _, rfl, rfl, rfl⟩⟩ ⟨(⟨((gt x8 0).toNat : Int), x23, [], (fun _ => 0), [], (⟨0, (fun _ => 0)⟩ : Lnk), ⟨#[]⟩⟩ : Ob), _, st27, none, none, rdU_1 (RdU.ok hu13 (by omega)) hc21 hu28, hbo31, (show BldOk 34 entC [] none from BldOk.nil), (show BldOk 32 idC [] none from BldOk.nil), rfl, (show ((bldMx 5 byteC x23 st27) : Mem) = _ from by simp [bldMx])⟩ sb (fun e he => Or.symm ((oL hX22) e he))))))))
  ·refine sq (pl (qq rfl (RD.eql rfl rfl) (qa rfl (n0 (pn_condD rfl (fun hc35 => ?_) (fun hc35 => ?_))))))
   ·refine sq (pl (qm rfl (cM ((b29, .cells #[sv11] 223 (0, 0)) :: (bldMx 5 byteC b st1)) ((b7, .cells (objV (⟨((gt x8 0).toNat : Int), [], [], (fun _ => 0), [], (⟨0, (fun _ => 0)⟩ : Lnk), ⟨#[]⟩⟩ : Ob) (.slice none 0 0) (.slice none 0 0) (.slice none 0 0)).cells 48 (0, 0)) :: (b2, .cells (objV (⟨0, [], [], (fun _ => 0), [], (⟨0, (fun _ => 0)⟩ : Lnk), ⟨#[]⟩⟩ : Ob) (.slice none 0 0) (.slice none 0 0) (.slice none 0 0)).cells 48 (0, 0)) :: ((bldMx 5 byteC x8 st12) ++ HX)) rfl call141 (ownC (.inl hb29) (oC (oR hX7))) (fun w hw => c_r01NumS (bldMx 5 byteC b st1) b29 sv11 r10 32 w hr14.s (by first | assumption | omega | (simp; done) | (simp; omega)) (by omega) hw.s) ?_)))
    rintro v47 H48 ⟨x37, e38, r39, sv40, hu42, hr43, hrl44, rfl, rfl⟩ hX36
    have hrghu42 := RdU.rng hu42
    refine tsp ((b29, .cells #[sv40] 223 (0, 0)) :: (b7, .cells (objV (⟨((gt x8 0).toNat : Int), [], [], (fun _ => 0), [], (⟨0, (fun _ => 0)⟩ : Lnk), ⟨#[]⟩⟩ : Ob) (.slice none 0 0) (.slice none 0 0) (.slice none 0 0)).cells 48 (0, 0)) :: (b2, .cells (objV (⟨0, [], [], (fun _ => 0), [], (⟨0, (fun _ => 0)⟩ : Lnk), ⟨#[]⟩⟩ : Ob) (.slice none 0 0) (.slice none 0 0) (.slice none 0 0)).cells 48 (0, 0)) :: ((bldMx 5 (byteC) b st1) ++ ((bldMx 5 (byteC) x8 st12) ++ HX))) (qm rfl (qe rfl (qe rfl (qa rfl (qa rfl (n0 (sq (pl (qm rfl ?_)))))))))
    refine qa rfl (n0 (sq (pl (qa rfl (n0 (pn_block ?_))))))
    have hn9 := numU_le hu42
    refine lpS (σ := Nat × (List Ent) × (List UInt8) × Value × Int × SnkS) (fun q => [(2, .pointer (some ⟨b2, 0, none⟩)), (4, .pointer (some ⟨b29, 0, none⟩)), (7, .pointer (some ⟨b7, 0, none⟩)), (8, .int .u64 (x37 : Int)), (6, .int .i64 q.2.2.2.2.1), (10, .int .u64 (q.1 : Int))]) (fun q => ((b29, .cells #[q.2.2.2.1] 223 (0, 0)) :: (b7, .cells (objV (⟨((gt x8 0).toNat : Int), [], q.2.1, (fun _ => 0), [], (⟨0, (fun _ => 0)⟩ : Lnk), ⟨#[]⟩⟩ : Ob) (.slice none 0 0) (bldVx q.2.1 q.2.2.2.2.2) (.slice none 0 0)).cells 48 (0, 0)) :: (b2, .cells (objV (⟨0, [], [], (fun _ => 0), [], (⟨0, (fun _ => 0)⟩ : Lnk), ⟨#[]⟩⟩ : Ob) (.slice none 0 0) (.slice none 0 0) (.slice none 0 0)).cells 48 (0, 0)) :: ((bldMx 113 entC q.2.1 q.2.2.2.2.2) ++ ((bldMx 5 byteC b st1) ++ ((bldMx 5 byteC x8 st12) ++ HX))))) (fun q => (q.1 ≤ x37) ∧ (SevJ entM x37 q.1 r39 e38 q.2.1 q.2.2.1 q.2.2.2.2.1) ∧ (Rdb (bldMx 5 byteC b st1) q.2.2.2.1 q.2.2.1) ∧ (q.2.2.1.length ≤ r39.length) ∧ (q.2.1.length = q.1) ∧ (BldOk 34 entC q.2.1 q.2.2.2.2.2) ∧ (∀ e ∈ bldMx 113 entC q.2.1 q.2.2.2.2.2, w.heap.size ≤ e.1 ∨ e.1 ∈ [])) (fun q => x37 - q.1) (0, [], r39, sv40, e38, none) ⟨(by omega), (sevJ_0 (by omega)), hr43, (Nat.le_refl _), rfl, BldOk.nil, (by intro e he; cases he)⟩ ⟨rfl, rfl, rfl, rfl, rfl, rfl, trivial⟩ ?_
    rintro ⟨i9, acc, ys9, sv9, wr9, st9⟩ ⟨hi9, hwr, hby9, hl9, hac, hbost9, hXst9⟩
    dsimp only at hi9 hwr hby9 hl9 hac hbost9 hXst9 ⊢
    have hRst9 := hbost9.rdx (u := 113) entC_len
    refine sq (sq (pl (qm rfl (qm rfl (qq rfl (RD.lss rfl rfl) (qm rfl (TE_join (σ := Unit) (fun _ => [(2, .pointer (some ⟨b2, 0, none⟩)), (4, .pointer (some ⟨b29, 0, none⟩)), (6, .int .i64 wr9), (7, .pointer (some ⟨b7, 0, none⟩)), (8, .int .u64 (x37 : Int)), (10, .int .u64 (i9 : Int)), (67, .bool ((decide ((i9 : Int) < (x37 : Int))) && (decide (wr9 = 0))))]) (fun _ => ((b29, .cells #[sv9] 223 (0, 0)) :: (b7, .cells (objV (⟨((gt x8 0).toNat : Int), [], acc, (fun _ => 0), [], (⟨0, (fun _ => 0)⟩ : Lnk), ⟨#[]⟩⟩ : Ob) (.slice none 0 0) (bldVx acc st9) (.slice none 0 0)).cells 48 (0, 0)) :: (b2, .cells (objV (⟨0, [], [], (fun _ => 0), [], (⟨0, (fun _ => 0)⟩ : Lnk), ⟨#[]⟩⟩ : Ob) (.slice none 0 0) (.slice none 0 0) (.slice none 0 0)).cells 48 (0, 0)) :: ((bldMx 113 entC acc st9) ++ ((bldMx 5 byteC b st1) ++ ((bldMx 5 byteC x8 st12) ++ HX))))) (fun _ => True) ?_ ?_)))))))
    ·refine TE_dec (fun hf49 => ?_) (fun hf49 => ?_)
     ·exact qg rfl (TE_gq rfl rfl rfl rfl (RD.eql rfl rfl) rfl (qT rfl (n0 (pn_give () trivial ⟨rfl, rfl, rfl, rfl, rfl, rfl, congrArg (fun b => some (Value.bool b)) (by first | (simp [hf49]; done) | (simp only [decide_eq_true hf49]; rfl) | (simp only [decide_eq_true hf49]; simp; done)), trivial⟩ sb))))
     ·exact qs rfl (qs rfl (qF rfl (n0 (pn_give () trivial ⟨rfl, rfl, rfl, rfl, rfl, rfl, congrArg (fun b => some (Value.bool b)) (by first | (simp [hf49]; done) | (simp only [decide_eq_false hf49]; rfl) | (simp only [decide_eq_false hf49]; simp; done)), trivial⟩ sb))))
    rintro _ -
    refine pn_cond rfl (fun hc50 => ?_) (fun hc50 => ?_)
    ·simp only [Bool.and_eq_true, decide_eq_true_eq] at hc50
     refine sk (sq (pn_block (sq (pl (qm rfl (cM ((b29, .cells #[sv9] 223 (0, 0)) :: (bldMx 5 byteC b st1)) ((b7, .cells (objV (⟨((gt x8 0).toNat : Int), [], acc, (fun _ => 0), [], (⟨0, (fun _ => 0)⟩ : Lnk), ⟨#[]⟩⟩ : Ob) (.slice none 0 0) (bldVx acc st9) (.slice none 0 0)).cells 48 (0, 0)) :: (b2, .cells (objV (⟨0, [], [], (fun _ => 0), [], (⟨0, (fun _ => 0)⟩ : Lnk), ⟨#[]⟩⟩ : Ob) (.slice none 0 0) (.slice none 0 0) (.slice none 0 0)).cells 48 (0, 0)) :: ((bldMx 113 entC acc st9) ++ ((bldMx 5 byteC x8 st12) ++ HX))) rfl call142 (ownC (.inl hb29) (oC hX36)) (fun w hw => c_r7Ent b29 sv9 ys9 (bldMx 5 byteC b st1) w hby9.s (by first | assumption | omega | (simp; done) | (simp; omega)) hw.s) ?_))))))
     rintro v59 H60 ⟨x52, e53, r54, sv55, hu56, hr57, hrl58, rfl, rfl⟩ hX51
     have hrghu56 := RdU.rng hu56
     refine tsp ((b29, .cells #[sv55] 223 (0, 0)) :: (b7, .cells (objV (⟨((gt x8 0).toNat : Int), [], acc, (fun _ => 0), [], (⟨0, (fun _ => 0)⟩ : Lnk), ⟨#[]⟩⟩ : Ob) (.slice none 0 0) (bldVx acc st9) (.slice none 0 0)).cells 48 (0, 0)) :: (b2, .cells (objV (⟨0, [], [], (fun _ => 0), [], (⟨0, (fun _ => 0)⟩ : Lnk), ⟨#[]⟩⟩ : Ob) (.slice none 0 0) (.slice none 0 0) (.slice none 0 0)).cells 48 (0, 0)) :: ((bldMx 5 (byteC) b st1) ++ ((bldMx 113 (entC) acc st9) ++ ((bldMx 5 (byteC) x8 st12) ++ HX)))) (qm rfl (qe rfl (qe rfl (TE_allocC (entV (⟨⟨#[]⟩, 0, (fun _ => 0)⟩ : Ent)).cells rfl zeroValue113 rfl trivial rfl fun b11 hb11 => (TE_putCW 0 _ _ ((b11, .cells (entV x52).cells 113 (0, 0)) :: (b29, .cells #[sv55] 223 (0, 0)) :: (b7, .cells (objV (⟨((gt x8 0).toNat : Int), [], acc, (fun _ => 0), [], (⟨0, (fun _ => 0)⟩ : Lnk), ⟨#[]⟩⟩ : Ob) (.slice none 0 0) (bldVx acc st9) (.slice none 0 0)).cells 48 (0, 0)) :: (b2, .cells (objV (⟨0, [], [], (fun _ => 0), [], (⟨0, (fun _ => 0)⟩ : Lnk), ⟨#[]⟩⟩ : Ob) (.slice none 0 0) (.slice none 0 0) (.slice none 0 0)).cells 48 (0, 0)) :: ((bldMx 5 byteC b st1) ++ ((bldMx 113 entC acc st9) ++ ((bldMx 5 byteC x8 st12) ++ HX)))) rfl sizeOf113 trivial rfl rfl rfl rfl rfl rfl rfl rfl (.inl hb11) (qa rfl (n0 (sq (pl ?_)))))))))
     refine qm rfl (qa rfl (n0 (pl (qq rfl (RD.fieldAddr (o := 2) runUnderlying48 rfl rfl sizeOf43 rfl) (ql rfl (RD.load (i := 2) (v := bldVx acc st9) isAgg43 rfl rfl rfl) (ql rfl (RD.loadA (i := 0) isAgg113 sizeOf113 rfl rfl (Nat.le_of_ble_eq_true rfl) (ent_all _)) (TE_buildSlice (cells := (cat entC [x52] ++ []).toArray) rfl runUnderlying43 sizeOf113 zeroValue113 rfl rfl rfl (by kernel_rfl) trivial rfl fun b79 hb79 => (tsp ((bldMx 113 (entC) acc st9) ++ ((b79, .cells (cat entC [x52] ++ []).toArray 113 (0, 0)) :: (b11, .cells (entV x52).cells 113 (0, 0)) :: (b29, .cells #[sv55] 223 (0, 0)) :: (b7, .cells (objV (⟨((gt x8 0).toNat : Int), [], acc, (fun _ => 0), [], (⟨0, (fun _ => 0)⟩ : Lnk), ⟨#[]⟩⟩ : Ob) (.slice none 0 0) (bldVx acc st9) (.slice none 0 0)).cells 48 (0, 0)) :: (b2, .cells (objV (⟨0, [], [], (fun _ => 0), [], (⟨0, (fun _ => 0)⟩ : Lnk), ⟨#[]⟩⟩ : Ob) (.slice none 0 0) (.slice none 0 0) (.slice none 0 0)).cells 48 (0, 0)) :: ((bldMx 5 (byteC) b st1) ++ ((bldMx 5 (byteC) x8 st12) ++ HX)))) (TE_appendX (st := st9) (l := acc) (ys := [x52]) ((b79, .cells (cat entC [x52] ++ []).toArray 113 (0, 0)) :: (b11, .cells (entV x52).cells 113 (0, 0)) :: (b29, .cells #[sv55] 223 (0, 0)) :: (b7, .cells (objV (⟨((gt x8 0).toNat : Int), [], acc, (fun _ => 0), [], (⟨0, (fun _ => 0)⟩ : Lnk), ⟨#[]⟩⟩ : Ob) (.slice none 0 0) (bldVx acc st9) (.slice none 0 0)).cells 48 (0, 0)) :: (b2, .cells (objV (⟨0, [], [], (fun _ => 0), [], (⟨0, (fun _ => 0)⟩ : Lnk), ⟨#[]⟩⟩ : Ob) (.slice none 0 0) (.slice none 0 0) (.slice none 0 0)).cells 48 (0, 0)) :: ((bldMx 5 byteC b st1) ++ ((bldMx 5 byteC x8 st12) ++ HX))) entC_len entC_one rfl rfl rfl rfl trivial rfl underlying43 el_ent rfl rfl rfl hbost9 (Rdx.blk (enc := entC) (H := [(b79, .cells (cat entC [x52] ++ []).toArray 113 (0, 0))]) (xs := [x52]) (n := 1) (i := 0) (tl := []) (c := 1) entC_len rfl rfl (Nat.le_refl _)) sb (by simp; omega) rfl hXst9 ?_)))))))))
     intro st61 hbo62 hX63 _
     have hR65 := hbo62.rdx (u := 113) entC_len
     exact tsp ((b79, .cells (cat entC [x52] ++ []).toArray 113 (0, 0)) :: (b11, .cells (entV x52).cells 113 (0, 0)) :: (b29, .cells #[sv55] 223 (0, 0)) :: (b7, .cells (objV (⟨((gt x8 0).toNat : Int), [], acc, (fun _ => 0), [], (⟨0, (fun _ => 0)⟩ : Lnk), ⟨#[]⟩⟩ : Ob) (.slice none 0 0) (bldVx acc st9) (.slice none 0 0)).cells 48 (0, 0)) :: (b2, .cells (objV (⟨0, [], [], (fun _ => 0), [], (⟨0, (fun _ => 0)⟩ : Lnk), ⟨#[]⟩⟩ : Ob) (.slice none 0 0) (.slice none 0 0) (.slice none 0 0)).cells 48 (0, 0)) :: ((bldMx 113 (entC) (acc ++ [x52]) st61) ++ ((bldMx 5 (byteC) b st1) ++ ((bldMx 5 (byteC) x8 st12) ++ HX)))) (qq rfl (RD.fieldAddr (o := 2) runUnderlying48 rfl rfl sizeOf43 rfl) (TE_storeC 3 _ _ ((b79, .cells (cat entC [x52] ++ []).toArray 113 (0, 0)) :: (b11, .cells (entV x52).cells 113 (0, 0)) :: (b29, .cells #[sv55] 223 (0, 0)) :: (b7, .cells (objV (⟨((gt x8 0).toNat : Int), [], (acc ++ [x52]), (fun _ => 0), [], (⟨0, (fun _ => 0)⟩ : Lnk), ⟨#[]⟩⟩ : Ob) (.slice none 0 0) (bldVx (acc ++ [x52]) st61) (.slice none 0 0)).cells 48 (0, 0)) :: (b2, .cells (objV (⟨0, [], [], (fun _ => 0), [], (⟨0, (fun _ => 0)⟩ : Lnk), ⟨#[]⟩⟩ : Ob) (.slice none 0 0) (.slice none 0 0) (.slice none 0 0)).cells 48 (0, 0)) :: ((bldMx 113 entC (acc ++ [x52]) st61) ++ ((bldMx 5 byteC b st1) ++ ((bldMx 5 byteC x8 st12) ++ HX)))) rfl sizeOf43 trivial rfl rfl (bvx_cells _ _) (bvx_one _ _) rfl rfl (put_obj_ents _ _ _ _ _ _) rfl (.inl hb7) (n0 (pl (qm rfl (qq rfl (RD.as (v := .int .u64 ((i9 + 1 : Nat) : Int)) (RD.add rfl rfl) (congrArg (Value.int .u64) (by rw [u64_wrap]; omega))) (qa rfl (n0 (agS ((i9 + 1), (acc ++ [x52]), r54, sv55, e53, st61) ⟨(by omega), (sevJ_go hwr hc50 hu56 (fun _ _ h => ent7_ok h) (fun _ h => ent7_err h)), hr57, (show r54.length ≤ r39.length by omega), (show (acc ++ [x52]).length = i9 + 1 by simp only [List.length_append, List.length_cons, List.length_nil]; omega), hbo62, hX63⟩ (by dsimp only; omega) ⟨rfl, rfl, rfl, rfl, rfl, rfl, trivial⟩)))))))))
    ·simp only [Bool.and_eq_false_iff, decide_eq_false_iff_not] at hc50
     exact xt (sq (pl (ql rfl (RD.loadA (i := 1) isAgg48 sizeOf48 rfl rfl (Nat.le_of_ble_eq_true rfl) (obj_all _ _ _ _)) (qm rfl (TE_putCW 2 _ _ ((b29, .cells #[sv9] 223 (0, 0)) :: (b7, .cells (objV (⟨((gt x8 0).toNat : Int), [], acc, (fun _ => 0), [], (⟨0, (fun _ => 0)⟩ : Lnk), ⟨#[]⟩⟩ : Ob) (.slice none 0 0) (bldVx acc st9) (.slice none 0 0)).cells 48 (0, 0)) :: (b2, .cells (objV (⟨((gt x8 0).toNat : Int), [], acc, (fun _ => 0), [], (⟨0, (fun _ => 0)⟩ : Lnk), ⟨#[]⟩⟩ : Ob) (.slice none 0 0) (bldVx acc st9) (.slice none 0 0)).cells 48 (0, 0)) :: ((bldMx 113 entC acc st9) ++ ((bldMx 5 byteC b st1) ++ ((bldMx 5 byteC x8 st12) ++ HX)))) rfl sizeOf48 trivial rfl rfl rfl (objV_one _ _ _ _ rfl (bvx_one _ _) rfl) rfl rfl rfl rfl (.inl hb2) (qa rfl (n0 (rt (pn_doneF rfl ⟨objV (⟨((gt x8 0).toNat : Int), [], acc, (fun _ => 0), [], (⟨0, (fun _ => 0)⟩ : Lnk), ⟨#[]⟩⟩ : Ob) (.slice none 0 0) (bldVx acc st9) (.slice none 0 0), _, b2, 0, rfl, rfl, load_agg (i := 2) isAgg48 sizeOf48 rfl (Nat.le_of_ble_eq_true rfl) (obj_all _ _ _ _), ⟨_, _, rfl, rfl, rfl⟩⟩ ⟨(⟨((gt x8 0).toNat : Int), [], acc, (fun _ => 0), [], (⟨0, (fun _ => 0)⟩ : Lnk), ⟨#[]⟩⟩ : Ob), _, none, st9, none, rdU_2 (RdU.ok hu13 (by omega)) hc21 hc35 hu42 (sevJ_end hwr hc50), (show BldOk 1 byteC [] none from BldOk.nil), hbost9, (show BldOk 32 idC [] none from BldOk.nil), rfl, (show ((bldMx 113 entC acc st9) : Mem) = _ from by simp [bldMx])⟩ sb (fun e he => Or.symm (hXst9 e he)))))))))))
   ·refine sq (pl (qq rfl (RD.eql rfl rfl) (qa rfl (n0 (pn_condD rfl (fun hc66 => ?_) (fun hc66 => ?_))))))
    ·refine sq (pl (qm rfl (cM ((b29, .cells #[sv11] 223 (0, 0)) :: (bldMx 5 byteC b st1)) ((b7, .cells (objV (⟨((gt x8 0).toNat : Int), [], [], (fun _ => 0), [], (⟨0, (fun _ => 0)⟩ : Lnk), ⟨#[]⟩⟩ : Ob) (.slice none 0 0) (.slice none 0 0) (.slice none 0 0)).cells 48 (0, 0)) :: (b2, .cells (objV (⟨0, [], [], (fun _ => 0), [], (⟨0, (fun _ => 0)⟩ : Lnk), ⟨#[]⟩⟩ : Ob) (.slice none 0 0) (.slice none 0 0) (.slice none 0 0)).cells 48 (0, 0)) :: ((bldMx 5 byteC x8 st12) ++ HX)) rfl call143 (ownC (.inl hb29) (oC (oR hX7))) (fun w hw => c_r7Id b29 sv11 r10 (bldMx 5 byteC b st1) w hr14.s (by first | assumption | omega | (simp; done) | (simp; omega)) hw.s) ?_)))
     rintro v75 H76 ⟨x68, e69, r70, sv71, hu72, hr73, hrl74, rfl, rfl⟩ hX67
     have hrghu72 := RdU.rng hu72
     refine tsp ((b29, .cells #[sv71] 223 (0, 0)) :: (b7, .cells (objV (⟨((gt x8 0).toNat : Int), [], [], (fun _ => 0), [], (⟨0, (fun _ => 0)⟩ : Lnk), ⟨#[]⟩⟩ : Ob) (.slice none 0 0) (.slice none 0 0) (.slice none 0 0)).cells 48 (0, 0)) :: (b2, .cells (objV (⟨0, [], [], (fun _ => 0), [], (⟨0, (fun _ => 0)⟩ : Lnk), ⟨#[]⟩⟩ : Ob) (.slice none 0 0) (.slice none 0 0) (.slice none 0 0)).cells 48 (0, 0)) :: ((bldMx 5 (byteC) b st1) ++ ((bldMx 5 (byteC) x8 st12) ++ HX))) (qm rfl (qe rfl (qe rfl (TE_allocC (idV (fun _ => 0)).cells rfl zeroValue36 rfl trivial rfl fun b13 hb13 => (TE_putCW 0 _ _ ((b13, .cells (idV x68).cells 36 (0, 0)) :: (b29, .cells #[sv71] 223 (0, 0)) :: (b7, .cells (objV (⟨((gt x8 0).toNat : Int), [], [], (fun _ => 0), [], (⟨0, (fun _ => 0)⟩ : Lnk), ⟨#[]⟩⟩ : Ob) (.slice none 0 0) (.slice none 0 0) (.slice none 0 0)).cells 48 (0, 0)) :: (b2, .cells (objV (⟨0, [], [], (fun _ => 0), [], (⟨0, (fun _ => 0)⟩ : Lnk), ⟨#[]⟩⟩ : Ob) (.slice none 0 0) (.slice none 0 0) (.slice none 0 0)).cells 48 (0, 0)) :: ((bldMx 5 byteC b st1) ++ ((bldMx 5 byteC x8 st12) ++ HX))) rfl sizeOf36 trivial rfl rfl rfl rfl rfl rfl rfl rfl (.inl hb13) (qa rfl (n0 (sq (pl ?_)))))))))
     refine ql rfl (RD.loadA (i := 0) isAgg36 sizeOf36 rfl rfl (Nat.le_of_ble_eq_true rfl) (id_all _)) (qq rfl (RD.fieldAddr (o := 3) runUnderlying48 rfl rfl sizeOf36 rfl) (TE_putC 2 _ _ ((b13, .cells (idV x68).cells 36 (0, 0)) :: (b29, .cells #[sv71] 223 (0, 0)) :: (b7, .cells (objV (⟨((gt x8 0).toNat : Int), [], [], x68, [], (⟨0, (fun _ => 0)⟩ : Lnk), ⟨#[]⟩⟩ : Ob) (.slice none 0 0) (.slice none 0 0) (.slice none 0 0)).cells 48 (0, 0)) :: (b2, .cells (objV (⟨0, [], [], (fun _ => 0), [], (⟨0, (fun _ => 0)⟩ : Lnk), ⟨#[]⟩⟩ : Ob) (.slice none 0 0) (.slice none 0 0) (.slice none 0 0)).cells 48 (0, 0)) :: ((bldMx 5 byteC b st1) ++ ((bldMx 5 byteC x8 st12) ++ HX))) rfl sizeOf36 trivial rfl rfl rfl rfl rfl rfl (put_obj_t _ _ _ _ _) rfl (.inl hb7) (n0 (sq (pl (qm rfl (cM ((b29, .cells #[sv71] 223 (0, 0)) :: (bldMx 5 byteC b st1)) ((b13, .cells (idV x68).cells 36 (0, 0)) :: (b7, .cells (objV (⟨((gt x8 0).toNat : Int), [], [], x68, [], (⟨0, (fun _ => 0)⟩ : Lnk), ⟨#[]⟩⟩ : Ob) (.slice none 0 0) (.slice none 0 0) (.slice none 0 0)).cells 48 (0, 0)) :: (b2, .cells (objV (⟨0, [], [], (fun _ => 0), [], (⟨0, (fun _ => 0)⟩ : Lnk), ⟨#[]⟩⟩ : Ob) (.slice none 0 0) (.slice none 0 0) (.slice none 0 0)).cells 48 (0, 0)) :: ((bldMx 5 byteC x8 st12) ++ HX)) rfl call141 (ownC (.inl hb29) (oC hX67)) (fun w hw => c_r01NumS (bldMx 5 byteC b st1) b29 sv71 r70 4 w hr73.s (by first | assumption | omega | (simp; done) | (simp; omega)) (by omega) hw.s) ?_)))))))
     rintro v88 H89 ⟨x78, e79, r80, sv81, hu83, hr84, hrl85, rfl, rfl⟩ hX77
     have hrghu83 := RdU.rng hu83
     refine tsp ((b29, .cells #[sv81] 223 (0, 0)) :: (b13, .cells (idV x68).cells 36 (0, 0)) :: (b7, .cells (objV (⟨((gt x8 0).toNat : Int), [], [], x68, [], (⟨0, (fun _ => 0)⟩ : Lnk), ⟨#[]⟩⟩ : Ob) (.slice none 0 0) (.slice none 0 0) (.slice none 0 0)).cells 48 (0, 0)) :: (b2, .cells (objV (⟨0, [], [], (fun _ => 0), [], (⟨0, (fun _ => 0)⟩ : Lnk), ⟨#[]⟩⟩ : Ob) (.slice none 0 0) (.slice none 0 0) (.slice none 0 0)).cells 48 (0, 0)) :: ((bldMx 5 (byteC) b st1) ++ ((bldMx 5 (byteC) x8 st12) ++ HX))) (qm rfl (qe rfl (qe rfl (qa rfl (qa rfl (n0 (sq (pl (qm rfl ?_)))))))))
     refine qm rfl (qq rfl (RD.addI rfl rfl (by omega) (by omega)) (qa rfl (n0 (sq (sq (pl (qa rfl (n0 (pn_block ?_)))))))))
     have hn9 := numU_le hu83
     refine lpS (σ := Nat × (List (Nat → Int)) × (List UInt8) × Value × Int × SnkS) (fun q => [(2, .pointer (some ⟨b2, 0, none⟩)), (4, .pointer (some ⟨b29, 0, none⟩)), (7, .pointer (some ⟨b7, 0, none⟩)), (15, .int .u64 (x78 : Int)), (6, .int .i64 q.2.2.2.2.1), (17, .int .u64 (q.1 : Int))]) (fun q => ((b29, .cells #[q.2.2.2.1] 223 (0, 0)) :: (b7, .cells (objV (⟨((gt x8 0).toNat : Int), [], [], x68, q.2.1, (⟨0, (fun _ => 0)⟩ : Lnk), ⟨#[]⟩⟩ : Ob) (.slice none 0 0) (.slice none 0 0) (bldVx q.2.1 q.2.2.2.2.2)).cells 48 (0, 0)) :: (b13, .cells (idV x68).cells 36 (0, 0)) :: (b2, .cells (objV (⟨0, [], [], (fun _ => 0), [], (⟨0, (fun _ => 0)⟩ : Lnk), ⟨#[]⟩⟩ : Ob) (.slice none 0 0) (.slice none 0 0) (.slice none 0 0)).cells 48 (0, 0)) :: ((bldMx 36 idC q.2.1 q.2.2.2.2.2) ++ ((bldMx 5 byteC b st1) ++ ((bldMx 5 byteC x8 st12) ++ HX))))) (fun q => (q.1 ≤ x78) ∧ (SevJ idM x78 q.1 r80 (e69 + e79) q.2.1 q.2.2.1 q.2.2.2.2.1) ∧ (Rdb (bldMx 5 byteC b st1) q.2.2.2.1 q.2.2.1) ∧ (q.2.2.1.length ≤ r80.length) ∧ (q.2.1.length = q.1) ∧ (BldOk 32 idC q.2.1 q.2.2.2.2.2) ∧ (∀ e ∈ bldMx 36 idC q.2.1 q.2.2.2.2.2, w.heap.size ≤ e.1 ∨ e.1 ∈ [])) (fun q => x78 - q.1) (0, [], r80, sv81, (e69 + e79), none) ⟨(by omega), (sevJ_0 (by omega)), hr84, (Nat.le_refl _), rfl, BldOk.nil, (by intro e he; cases he)⟩ ⟨rfl, rfl, rfl, rfl, rfl, rfl, trivial⟩ ?_
     rintro ⟨i9, acc, ys9, sv9, wr9, st9⟩ ⟨hi9, hwr, hby9, hl9, hac, hbost9, hXst9⟩
     dsimp only at hi9 hwr hby9 hl9 hac hbost9 hXst9 ⊢
     have hRst9 := hbost9.rdx (u := 36) idC_len
     refine sq (sq (pl (qm rfl (qm rfl (qq rfl (RD.lss rfl rfl) (qm rfl (TE_join (σ := Unit) (fun _ => [(2, .pointer (some ⟨b2, 0, none⟩)), (4, .pointer (some ⟨b29, 0, none⟩)), (6, .int .i64 wr9), (7, .pointer (some ⟨b7, 0, none⟩)), (15, .int .u64 (x78 : Int)), (17, .int .u64 (i9 : Int)), (105, .bool ((decide ((i9 : Int) < (x78 : Int))) && (decide (wr9 = 0))))]) (fun _ => ((b29, .cells #[sv9] 223 (0, 0)) :: (b7, .cells (objV (⟨((gt x8 0).toNat : Int), [], [], x68, acc, (⟨0, (fun _ => 0)⟩ : Lnk), ⟨#[]⟩⟩ : Ob) (.slice none 0 0) (.slice none 0 0) (bldVx acc st9)).cells 48 (0, 0)) :: (b13, .cells (idV x68).cells 36 (0, 0)) :: (b2, .cells (objV (⟨0, [], [], (fun _ => 0), [], (⟨0, (fun _ => 0)⟩ : Lnk), ⟨#[]⟩⟩ : Ob) (.slice none 0 0) (.slice none 0 0) (.slice none 0 0)).cells 48 (0, 0)) :: ((bldMx 36 idC acc st9) ++ ((bldMx 5 byteC b st1) ++ ((bldMx 5 byteC x8 st12) ++ HX))))) (fun _ => True) ?_ ?_)))))))
     ·refine TE_dec (fun hf90 => ?_) (fun hf90 => ?_)
      ·exact qg rfl (TE_gq rfl rfl rfl rfl (RD.eql rfl rfl) rfl (qT rfl (n0 (pn_give () trivial ⟨rfl, rfl, rfl, rfl, rfl, rfl, congrArg (fun b => some (Value.bool b)) (by first | (simp [hf90]; done) | (simp only [decide_eq_true hf90]; rfl) | (simp only [decide_eq_true hf90]; simp; done)), trivial⟩ sb))))
      ·exact qs rfl (qs rfl (qF rfl (n0 (pn_give () trivial ⟨rfl, rfl, rfl, rfl, rfl, rfl, congrArg (fun b => some (Value.bool b)) (by first | (simp [hf90]; done) | (simp only [decide_eq_false hf90]; rfl) | (simp only [decide_eq_false hf90]; simp; done)), trivial⟩ sb))))
     rintro _ -
     refine pn_cond rfl (fun hc91 => ?_) (fun hc91 => ?_)
     ·simp only [Bool.and_eq_true, decide_eq_true_eq] at hc91
      refine sk (sq (pn_block (sq (pl (qm rfl (cM ((b29, .cells #[sv9] 223 (0, 0)) :: (bldMx 5 byteC b st1)) ((b7, .cells (objV (⟨((gt x8 0).toNat : Int), [], [], x68, acc, (⟨0, (fun _ => 0)⟩ : Lnk), ⟨#[]⟩⟩ : Ob) (.slice none 0 0) (.slice none 0 0) (bldVx acc st9)).cells 48 (0, 0)) :: (b13, .cells (idV x68).cells 36 (0, 0)) :: (b2, .cells (objV (⟨0, [], [], (fun _ => 0), [], (⟨0, (fun _ => 0)⟩ : Lnk), ⟨#[]⟩⟩ : Ob) (.slice none 0 0) (.slice none 0 0) (.slice none 0 0)).cells 48 (0, 0)) :: ((bldMx 36 idC acc st9) ++ ((bldMx 5 byteC x8 st12) ++ HX))) rfl call143 (ownC (.inl hb29) (oC hX77)) (fun w hw => c_r7Id b29 sv9 ys9 (bldMx 5 byteC b st1) w hby9.s (by first | assumption | omega | (simp; done) | (simp; omega)) hw.s) ?_))))))
      rintro v100 H101 ⟨x93, e94, r95, sv96, hu97, hr98, hrl99, rfl, rfl⟩ hX92
      have hrghu97 := RdU.rng hu97
      refine tsp ((b29, .cells #[sv96] 223 (0, 0)) :: (b7, .cells (objV (⟨((gt x8 0).toNat : Int), [], [], x68, acc, (⟨0, (fun _ => 0)⟩ : Lnk), ⟨#[]⟩⟩ : Ob) (.slice none 0 0) (.slice none 0 0) (bldVx acc st9)).cells 48 (0, 0)) :: (b13, .cells (idV x68).cells 36 (0, 0)) :: (b2, .cells (objV (⟨0, [], [], (fun _ => 0), [], (⟨0, (fun _ => 0)⟩ : Lnk), ⟨#[]⟩⟩ : Ob) (.slice none 0 0) (.slice none 0 0) (.slice none 0 0)).cells 48 (0, 0)) :: ((bldMx 5 (byteC) b st1) ++ ((bldMx 36 (idC) acc st9) ++ ((bldMx 5 (byteC) x8 st12) ++ HX)))) (qm rfl (qe rfl (qe rfl (TE_allocC (idV (fun _ => 0)).cells rfl zeroValue36 rfl trivial rfl fun b18 hb18 => (TE_putCW 0 _ _ ((b18, .cells (idV x93).cells 36 (0, 0)) :: (b29, .cells #[sv96] 223 (0, 0)) :: (b7, .cells (objV (⟨((gt x8 0).toNat : Int), [], [], x68, acc, (⟨0, (fun _ => 0)⟩ : Lnk), ⟨#[]⟩⟩ : Ob) (.slice none 0 0) (.slice none 0 0) (bldVx acc st9)).cells 48 (0, 0)) :: (b13, .cells (idV x68).cells 36 (0, 0)) :: (b2, .cells (objV (⟨0, [], [], (fun _ => 0), [], (⟨0, (fun _ => 0)⟩ : Lnk), ⟨#[]⟩⟩ : Ob) (.slice none 0 0) (.slice none 0 0) (.slice none 0 0)).cells 48 (0, 0)) :: ((bldMx 5 byteC b st1) ++ ((bldMx 36 idC acc st9) ++ ((bldMx 5 byteC x8 st12) ++ HX)))) rfl sizeOf36 trivial rfl rfl rfl rfl rfl rfl rfl rfl (.inl hb18) (qa rfl (n0 (sq (pl ?_)))))))))
      refine qm rfl (qa rfl (n0 (pl (qq rfl (RD.fieldAddr (o := 35) runUnderlying48 rfl rfl sizeOf44 rfl) (ql rfl (RD.load (i := 2) (v := bldVx acc st9) isAgg44 rfl rfl rfl) (ql rfl (RD.loadA (i := 0) isAgg36 sizeOf36 rfl rfl (Nat.le_of_ble_eq_true rfl) (id_all _)) (TE_buildSlice (cells := (cat idC [x93] ++ []).toArray) rfl runUnderlying44 sizeOf36 zeroValue36 rfl rfl rfl (by kernel_rfl) trivial rfl fun b117 hb117 => (tsp ((bldMx 36 (idC) acc st9) ++ ((b117, .cells (cat idC [x93] ++ []).toArray 36 (0, 0)) :: (b18, .cells (idV x93).cells 36 (0, 0)) :: (b29, .cells #[sv96] 223 (0, 0)) :: (b7, .cells (objV (⟨((gt x8 0).toNat : Int), [], [], x68, acc, (⟨0, (fun _ => 0)⟩ : Lnk), ⟨#[]⟩⟩ : Ob) (.slice none 0 0) (.slice none 0 0) (bldVx acc st9)).cells 48 (0, 0)) :: (b13, .cells (idV x68).cells 36 (0, 0)) :: (b2, .cells (objV (⟨0, [], [], (fun _ => 0), [], (⟨0, (fun _ => 0)⟩ : Lnk), ⟨#[]⟩⟩ : Ob) (.slice none 0 0) (.slice none 0 0) (.slice none 0 0)).cells 48 (0, 0)) :: ((bldMx 5 (byteC) b st1) ++ ((bldMx 5 (byteC) x8 st12) ++ HX)))) (TE_appendX (st := st9) (l := acc) (ys := [x93]) ((b117, .cells (cat idC [x93] ++ []).toArray 36 (0, 0)) :: (b18, .cells (idV x93).cells 36 (0, 0)) :: (b29, .cells #[sv96] 223 (0, 0)) :: (b7, .cells (objV (⟨((gt x8 0).toNat : Int), [], [], x68, acc, (⟨0, (fun _ => 0)⟩ : Lnk), ⟨#[]⟩⟩ : Ob) (.slice none 0 0) (.slice none 0 0) (bldVx acc st9)).cells 48 (0, 0)) :: (b13, .cells (idV x68).cells 36 (0, 0)) :: (b2, .cells (objV (⟨0, [], [], (fun _ => 0), [], (⟨0, (fun _ => 0)⟩ : Lnk), ⟨#[]⟩⟩ : Ob) (.slice none 0 0) (.slice none 0 0) (.slice none 0 0)).cells 48 (0, 0)) :: ((bldMx 5 byteC b st1) ++ ((bldMx 5 byteC x8 st12) ++ HX))) idC_len idC_one rfl rfl rfl rfl trivial rfl underlying44 elId rfl rfl rfl hbost9 (Rdx.blk (enc := idC) (H := [(b117, .cells (cat idC [x93] ++ []).toArray 36 (0, 0))]) (xs := [x93]) (n := 1) (i := 0) (tl := []) (c := 1) idC_len rfl rfl (Nat.le_refl _)) sb (by simp; omega) rfl hXst9 ?_)))))))))
      intro st102 hbo103 hX104 _
      have hR106 := hbo103.rdx (u := 36) idC_len
      exact tsp ((b117, .cells (cat idC [x93] ++ []).toArray 36 (0, 0)) :: (b18, .cells (idV x93).cells 36 (0, 0)) :: (b29, .cells #[sv96] 223 (0, 0)) :: (b7, .cells (objV (⟨((gt x8 0).toNat : Int), [], [], x68, acc, (⟨0, (fun _ => 0)⟩ : Lnk), ⟨#[]⟩⟩ : Ob) (.slice none 0 0) (.slice none 0 0) (bldVx acc st9)).cells 48 (0, 0)) :: (b13, .cells (idV x68).cells 36 (0, 0)) :: (b2, .cells (objV (⟨0, [], [], (fun _ => 0), [], (⟨0, (fun _ => 0)⟩ : Lnk), ⟨#[]⟩⟩ : Ob) (.slice none 0 0) (.slice none 0 0) (.slice none 0 0)).cells 48 (0, 0)) :: ((bldMx 36 (idC) (acc ++ [x93]) st102) ++ ((bldMx 5 (byteC) b st1) ++ ((bldMx 5 (byteC) x8 st12) ++ HX)))) (qq rfl (RD.fieldAddr (o := 35) runUnderlying48 rfl rfl sizeOf44 rfl) (TE_storeC 3 _ _ ((b117, .cells (cat idC [x93] ++ []).toArray 36 (0, 0)) :: (b18, .cells (idV x93).cells 36 (0, 0)) :: (b29, .cells #[sv96] 223 (0, 0)) :: (b7, .cells (objV (⟨((gt x8 0).toNat : Int), [], [], x68, (acc ++ [x93]), (⟨0, (fun _ => 0)⟩ : Lnk), ⟨#[]⟩⟩ : Ob) (.slice none 0 0) (.slice none 0 0) (bldVx (acc ++ [x93]) st102)).cells 48 (0, 0)) :: (b13, .cells (idV x68).cells 36 (0, 0)) :: (b2, .cells (objV (⟨0, [], [], (fun _ => 0), [], (⟨0, (fun _ => 0)⟩ : Lnk), ⟨#[]⟩⟩ : Ob) (.slice none 0 0) (.slice none 0 0) (.slice none 0 0)).cells 48 (0, 0)) :: ((bldMx 36 idC (acc ++ [x93]) st102) ++ ((bldMx 5 byteC b st1) ++ ((bldMx 5 byteC x8 st12) ++ HX)))) rfl sizeOf44 trivial rfl rfl (bvx_cells _ _) (bvx_one _ _) rfl rfl (put_obj_pars _ _ _ _ _ _) rfl (.inl hb7) (n0 (pl (qm rfl (qq rfl (RD.as (v := .int .u64 ((i9 + 1 : Nat) : Int)) (RD.add rfl rfl) (congrArg (Value.int .u64) (by rw [u64_wrap]; omega))) (qa rfl (n0 (agS ((i9 + 1), (acc ++ [x93]), r95, sv96, e94, st102) ⟨(by omega), (sevJ_go hwr hc91 hu97 (fun _ _ h => id7_ok h) (fun _ h => id7_err h)), hr98, (show r95.length ≤ r80.length by omega), (show (acc ++ [x93]).length = i9 + 1 by simp only [List.length_append, List.length_cons, List.length_nil]; omega), hbo103, hX104⟩ (by dsimp only; omega) ⟨rfl, rfl, rfl, rfl, rfl, rfl, trivial⟩)))))))))
     ·simp only [Bool.and_eq_false_iff, decide_eq_false_iff_not] at hc91
      refine xt (sq (pl (qm rfl (qq rfl (RD.eql rfl rfl) (n0 (pn_condD rfl (fun hc107 => ?_) (fun hc107 => ?_)))))))
      ·refine pl (qm rfl (cM ((b29, .cells #[sv9] 223 (0, 0)) :: (bldMx 5 byteC b st1)) ((b7, .cells (objV (⟨((gt x8 0).toNat : Int), [], [], x68, acc, (⟨0, (fun _ => 0)⟩ : Lnk), ⟨#[]⟩⟩ : Ob) (.slice none 0 0) (.slice none 0 0) (bldVx acc st9)).cells 48 (0, 0)) :: (b13, .cells (idV x68).cells 36 (0, 0)) :: (b2, .cells (objV (⟨0, [], [], (fun _ => 0), [], (⟨0, (fun _ => 0)⟩ : Lnk), ⟨#[]⟩⟩ : Ob) (.slice none 0 0) (.slice none 0 0) (.slice none 0 0)).cells 48 (0, 0)) :: ((bldMx 36 idC acc st9) ++ ((bldMx 5 byteC x8 st12) ++ HX))) rfl call144 (ownC (.inl hb29) (oC hX77)) (fun w hw => c_r7Msg b29 sv9 ys9 (bldMx 5 byteC b st1) w hby9.s (by first | assumption | omega | (simp; done) | (simp; omega)) hw.s) ?_))
       rintro v116 H117 ⟨x109, e110, r111, sv112, hu113, hr114, hrl115, rfl, rfl⟩ hX108
       have hrghu113 := RdU.rng hu113
       refine tsp ((b29, .cells #[sv112] 223 (0, 0)) :: (b7, .cells (objV (⟨((gt x8 0).toNat : Int), [], [], x68, acc, (⟨0, (fun _ => 0)⟩ : Lnk), ⟨#[]⟩⟩ : Ob) (.slice none 0 0) (.slice none 0 0) (bldVx acc st9)).cells 48 (0, 0)) :: (b13, .cells (idV x68).cells 36 (0, 0)) :: (b2, .cells (objV (⟨0, [], [], (fun _ => 0), [], (⟨0, (fun _ => 0)⟩ : Lnk), ⟨#[]⟩⟩ : Ob) (.slice none 0 0) (.slice none 0 0) (.slice none 0 0)).cells 48 (0, 0)) :: ((bldMx 5 (byteC) b st1) ++ ((bldMx 36 (idC) acc st9) ++ ((bldMx 5 (byteC) x8 st12) ++ HX)))) (qm rfl (qe rfl (qe rfl (qq rfl (RD.fieldAddr (o := 69) runUnderlying48 rfl rfl sizeOf9 rfl) (TE_storeC 1 _ _ ((b29, .cells #[sv112] 223 (0, 0)) :: (b7, .cells (objV (⟨((gt x8 0).toNat : Int), [], [], x68, acc, (⟨0, (fun _ => 0)⟩ : Lnk), x109⟩ : Ob) (.slice none 0 0) (.slice none 0 0) (bldVx acc st9)).cells 48 (0, 0)) :: (b13, .cells (idV x68).cells 36 (0, 0)) :: (b2, .cells (objV (⟨0, [], [], (fun _ => 0), [], (⟨0, (fun _ => 0)⟩ : Lnk), ⟨#[]⟩⟩ : Ob) (.slice none 0 0) (.slice none 0 0) (.slice none 0 0)).cells 48 (0, 0)) :: ((bldMx 5 byteC b st1) ++ ((bldMx 36 idC acc st9) ++ ((bldMx 5 byteC x8 st12) ++ HX)))) rfl sizeOf9 trivial rfl rfl rfl rfl rfl rfl (put_obj_m _ _ _ _ _) rfl (.inl hb7) (qa rfl (n0 (sq (pl ?_)))))))))
       exact ql rfl (RD.loadA (i := 1) isAgg48 sizeOf48 rfl rfl (Nat.le_of_ble_eq_true rfl) (obj_all _ _ _ _)) (qm rfl (TE_putCW 3 _ _ ((b29, .cells #[sv112] 223 (0, 0)) :: (b7, .cells (objV (⟨((gt x8 0).toNat : Int), [], [], x68, acc, (⟨0, (fun _ => 0)⟩ : Lnk), x109⟩ : Ob) (.slice none 0 0) (.slice none 0 0) (bldVx acc st9)).cells 48 (0, 0)) :: (b13, .cells (idV x68).cells 36 (0, 0)) :: (b2, .cells (objV (⟨((gt x8 0).toNat : Int), [], [], x68, acc, (⟨0, (fun _ => 0)⟩ : Lnk), x109⟩ : Ob) (.slice none 0 0) (.slice none 0 0) (bldVx acc st9)).cells 48 (0, 0)) :: ((bldMx 5 byteC b st1) ++ ((bldMx 36 idC acc st9) ++ ((bldMx 5 byteC x8 st12) ++ HX)))) rfl sizeOf48 trivial rfl rfl rfl (objV_one _ _ _ _ rfl rfl (bvx_one _ _)) rfl rfl rfl rfl (.inl hb2) (qa rfl (n0 (rt (pn_doneF rfl ⟨objV (⟨((gt x8 0).toNat : Int), [], [], x68, acc, (⟨0, (fun _ => 0)⟩ : Lnk), x109⟩ : Ob) (.slice none 0 0) (.slice none 0 0) (bldVx acc st9), _, b2, 0, rfl, rfl, load_agg (i := 3) isAgg48 sizeOf48 rfl (Nat.le_of_ble_eq_true rfl) (obj_all _ _ _ _), ⟨_, _, rfl, rfl, rfl⟩⟩ ⟨(⟨((gt x8 0).toNat : Int), [], [], x68, acc, (⟨0, (fun _ => 0)⟩ : Lnk), x109⟩ : Ob), _, none, none, st9, rdU_3 (RdU.ok hu13 (by omega)) hc21 hc35 hc66 hu72 hu83 (sevJ_end hwr hc91) hc107 hu113, (show BldOk 1 byteC [] none from BldOk.nil), (show BldOk 34 entC [] none from BldOk.nil), hbost9, rfl, (show ((bldMx 36 idC acc st9) : Mem) = _ from by simp [bldMx])⟩ sb (fun e he => Or.symm (hXst9 e he))))))))
      ·exact sk (sq (pl (ql rfl (RD.loadA (i := 1) isAgg48 sizeOf48 rfl rfl (Nat.le_of_ble_eq_true rfl) (obj_all _ _ _ _)) (qm rfl (TE_putCW 3 _ _ ((b29, .cells #[sv9] 223 (0, 0)) :: (b7, .cells (objV (⟨((gt x8 0).toNat : Int), [], [], x68, acc, (⟨0, (fun _ => 0)⟩ : Lnk), ⟨#[]⟩⟩ : Ob) (.slice none 0 0) (.slice none 0 0) (bldVx acc st9)).cells 48 (0, 0)) :: (b13, .cells (idV x68).cells 36 (0, 0)) :: (b2, .cells (objV (⟨((gt x8 0).toNat : Int), [], [], x68, acc, (⟨0, (fun _ => 0)⟩ : Lnk), ⟨#[]⟩⟩ : Ob) (.slice none 0 0) (.slice none 0 0) (bldVx acc st9)).cells 48 (0, 0)) :: ((bldMx 36 idC acc st9) ++ ((bldMx 5 byteC b st1) ++ ((bldMx 5 byteC x8 st12) ++ HX)))) rfl sizeOf48 trivial rfl rfl rfl (objV_one _ _ _ _ rfl rfl (bvx_one _ _)) rfl rfl rfl rfl (.inl hb2) (qa rfl (n0 (rt (pn_doneF rfl ⟨objV (⟨((gt x8 0).toNat : Int), [], [], x68, acc, (⟨0, (fun _ => 0)⟩ : Lnk), ⟨#[]⟩⟩ : Ob) (.slice none 0 0) (.slice none 0 0) (bldVx acc st9), _, b2, 0, rfl, rfl, load_agg (i := 3) isAgg48 sizeOf48 rfl (Nat.le_of_ble_eq_true rfl) (obj_all _ _ _ _), ⟨_, _, rfl, rfl, rfl⟩⟩ ⟨(⟨((gt x8 0).toNat : Int), [], [], x68, acc, (⟨0, (fun _ => 0)⟩ : Lnk), ⟨#[]⟩⟩ : Ob), _, none, none, st9, rdU_3n (RdU.ok hu13 (by omega)) hc21 hc35 hc66 hu72 hu83 (sevJ_end hwr hc91) hc107, (show BldOk 1 byteC [] none from BldOk.nil), (show BldOk 34 entC [] none from BldOk.nil), hbost9, rfl, (show ((bldMx 36 idC acc st9) : Mem) = _ from by simp [bldMx])⟩ sb (fun e he => Or.symm (hXst9 e he)))))))))))
    ·refine sq (pl (qq rfl (RD.eql rfl rfl) (qa rfl (n0 (pn_condD rfl (fun hc118 => ?_) (fun hc118 => ?_))))))
     ·refine sq (pl (qm rfl (cM ((b29, .cells #[sv11] 223 (0, 0)) :: (bldMx 5 byteC b st1)) ((b7, .cells (objV (⟨((gt x8 0).toNat : Int), [], [], (fun _ => 0), [], (⟨0, (fun _ => 0)⟩ : Lnk), ⟨#[]⟩⟩ : Ob) (.slice none 0 0) (.slice none 0 0) (.slice none 0 0)).cells 48 (0, 0)) :: (b2, .cells (objV (⟨0, [], [], (fun _ => 0), [], (⟨0, (fun _ => 0)⟩ : Lnk), ⟨#[]⟩⟩ : Ob) (.slice none 0 0) (.slice none 0 0) (.slice none 0 0)).cells 48 (0, 0)) :: ((bldMx 5 byteC x8 st12) ++ HX)) rfl call139 (ownC (.inl hb29) (oC (oR hX7))) (fun w hw => c_r01Raw (bldMx 5 byteC b st1) b29 sv11 r10 1 w hr14.s (by first | assumption | omega | (simp; done) | (simp; omega)) (by omega) hw.s) ?_)))
      rintro v130 H131 ⟨x120, e121, r122, sv123, st124, hu125, hbo128, hr126, hrl127, rfl, rfl⟩ hX119
      have hrghu125 := RdU.rng hu125
      have hRD129 := hbo128.rdx (u := 5) byteC_len
      refine tsp ((b29, .cells #[sv123] 223 (0, 0)) :: (b7, .cells (objV (⟨((gt x8 0).toNat : Int), [], [], (fun _ => 0), [], (⟨0, (fun _ => 0)⟩ : Lnk), ⟨#[]⟩⟩ : Ob) (.slice none 0 0) (.slice none 0 0) (.slice none 0 0)).cells 48 (0, 0)) :: (b2, .cells (objV (⟨0, [], [], (fun _ => 0), [], (⟨0, (fun _ => 0)⟩ : Lnk), ⟨#[]⟩⟩ : Ob) (.slice none 0 0) (.slice none 0 0) (.slice none 0 0)).cells 48 (0, 0)) :: ((bldMx 5 (byteC) x120 st124) ++ ((bldMx 5 (byteC) b st1) ++ ((bldMx 5 (byteC) x8 st12) ++ HX)))) (qm rfl (qe rfl (qe rfl (qa rfl (qa rfl (n0 (sq (pl (qm rfl ?_)))))))))
      refine cM ((b29, .cells #[sv123] 223 (0, 0)) :: (bldMx 5 byteC b st1)) ((b7, .cells (objV (⟨((gt x8 0).toNat : Int), [], [], (fun _ => 0), [], (⟨0, (fun _ => 0)⟩ : Lnk), ⟨#[]⟩⟩ : Ob) (.slice none 0 0) (.slice none 0 0) (.slice none 0 0)).cells 48 (0, 0)) :: (b2, .cells (objV (⟨0, [], [], (fun _ => 0), [], (⟨0, (fun _ => 0)⟩ : Lnk), ⟨#[]⟩⟩ : Ob) (.slice none 0 0) (.slice none 0 0) (.slice none 0 0)).cells 48 (0, 0)) :: ((bldMx 5 byteC x120 st124) ++ ((bldMx 5 byteC x8 st12) ++ HX))) rfl call143 (ownC (.inl hb29) (oC (oR hX119))) (fun w hw => c_r7Id b29 sv123 r122 (bldMx 5 byteC b st1) w hr126.s (by first | assumption | omega | (simp; done) | (simp; omega)) hw.s) ?_
      rintro v140 H141 ⟨x133, e134, r135, sv136, hu137, hr138, hrl139, rfl, rfl⟩ hX132
      have hrghu137 := RdU.rng hu137
      refine tsp ((b29, .cells #[sv136] 223 (0, 0)) :: (b7, .cells (objV (⟨((gt x8 0).toNat : Int), [], [], (fun _ => 0), [], (⟨0, (fun _ => 0)⟩ : Lnk), ⟨#[]⟩⟩ : Ob) (.slice none 0 0) (.slice none 0 0) (.slice none 0 0)).cells 48 (0, 0)) :: (b2, .cells (objV (⟨0, [], [], (fun _ => 0), [], (⟨0, (fun _ => 0)⟩ : Lnk), ⟨#[]⟩⟩ : Ob) (.slice none 0 0) (.slice none 0 0) (.slice none 0 0)).cells 48 (0, 0)) :: ((bldMx 5 (byteC) b st1) ++ ((bldMx 5 (byteC) x120 st124) ++ ((bldMx 5 (byteC) x8 st12) ++ HX)))) (qm rfl (qe rfl (qe rfl (TE_allocC (idV (fun _ => 0)).cells rfl zeroValue36 rfl trivial rfl fun b22 hb22 => (TE_putCW 0 _ _ ((b22, .cells (idV x133).cells 36 (0, 0)) :: (b29, .cells #[sv136] 223 (0, 0)) :: (b7, .cells (objV (⟨((gt x8 0).toNat : Int), [], [], (fun _ => 0), [], (⟨0, (fun _ => 0)⟩ : Lnk), ⟨#[]⟩⟩ : Ob) (.slice none 0 0) (.slice none 0 0) (.slice none 0 0)).cells 48 (0, 0)) :: (b2, .cells (objV (⟨0, [], [], (fun _ => 0), [], (⟨0, (fun _ => 0)⟩ : Lnk), ⟨#[]⟩⟩ : Ob) (.slice none 0 0) (.slice none 0 0) (.slice none 0 0)).cells 48 (0, 0)) :: ((bldMx 5 byteC b st1) ++ ((bldMx 5 byteC x120 st124) ++ ((bldMx 5 byteC x8 st12) ++ HX)))) rfl sizeOf36 trivial rfl rfl rfl rfl rfl rfl rfl rfl (.inl hb22) (qa rfl (n0 (sq (pl ?_)))))))))
      refine qm rfl (cM ((b29, .cells #[sv136] 223 (0, 0)) :: (bldMx 5 byteC b st1)) ((b22, .cells (idV x133).cells 36 (0, 0)) :: (b7, .cells (objV (⟨((gt x8 0).toNat : Int), [], [], (fun _ => 0), [], (⟨0, (fun _ => 0)⟩ : Lnk), ⟨#[]⟩⟩ : Ob) (.slice none 0 0) (.slice none 0 0) (.slice none 0 0)).cells 48 (0, 0)) :: (b2, .cells (objV (⟨0, [], [], (fun _ => 0), [], (⟨0, (fun _ => 0)⟩ : Lnk), ⟨#[]⟩⟩ : Ob) (.slice none 0 0) (.slice none 0 0) (.slice none 0 0)).cells 48 (0, 0)) :: ((bldMx 5 byteC x120 st124) ++ ((bldMx 5 byteC x8 st12) ++ HX))) rfl call144 (ownC (.inl hb29) (oC hX132)) (fun w hw => c_r7Msg b29 sv136 r135 (bldMx 5 byteC b st1) w hr138.s (by first | assumption | omega | (simp; done) | (simp; omega)) hw.s) ?_)
      rintro v150 H151 ⟨x143, e144, r145, sv146, hu147, hr148, hrl149, rfl, rfl⟩ hX142
      have hrghu147 := RdU.rng hu147
      refine tsp ((b29, .cells #[sv146] 223 (0, 0)) :: (b22, .cells (idV x133).cells 36 (0, 0)) :: (b7, .cells (objV (⟨((gt x8 0).toNat : Int), [], [], (fun _ => 0), [], (⟨0, (fun _ => 0)⟩ : Lnk), ⟨#[]⟩⟩ : Ob) (.slice none 0 0) (.slice none 0 0) (.slice none 0 0)).cells 48 (0, 0)) :: (b2, .cells (objV (⟨0, [], [], (fun _ => 0), [], (⟨0, (fun _ => 0)⟩ : Lnk), ⟨#[]⟩⟩ : Ob) (.slice none 0 0) (.slice none 0 0) (.slice none 0 0)).cells 48 (0, 0)) :: ((bldMx 5 (byteC) b st1) ++ ((bldMx 5 (byteC) x120 st124) ++ ((bldMx 5 (byteC) x8 st12) ++ HX)))) (qm rfl (qe rfl (qe rfl (qa rfl (qa rfl (n0 (sq (pl (qm rfl ?_)))))))))
      refine qm rfl (qq rfl (RD.addI rfl rfl (by omega) (by omega)) (qm rfl (qq rfl (RD.addI rfl rfl (by omega) (by omega)) (qa rfl (n0 (sq (pl (qm rfl (qq rfl (RD.eql rfl rfl) ?_)))))))))
      refine n0 (pn_condD rfl (fun hc152 => ?_) (fun hc152 => ?_))
      ·refine sq ?_
       have h2l := rawD_len (RdU.ok hu125 (by omega))
       have hub2 := UInt8.toNat_lt (gt x120 0)
       refine dG [2, 3, 4] [(b7, .cells (objV (⟨((gt x8 0).toNat : Int), [], [], (fun _ => 0), [], (⟨0, (fun _ => 0)⟩ : Lnk), ⟨#[]⟩⟩ : Ob) (.slice none 0 0) (.slice none 0 0) (.slice none 0 0)).cells 48 (0, 0))] ((b29, .cells #[sv146] 223 (0, 0)) :: (b22, .cells (idV x133).cells 36 (0, 0)) :: (b2, .cells (objV (⟨0, [], [], (fun _ => 0), [], (⟨0, (fun _ => 0)⟩ : Lnk), ⟨#[]⟩⟩ : Ob) (.slice none 0 0) (.slice none 0 0) (.slice none 0 0)).cells 48 (0, 0)) :: ((bldMx 5 byteC b st1) ++ ((bldMx 5 byteC x120 st124) ++ ((bldMx 5 byteC x8 st12) ++ HX)))) (qm rfl (qq rfl (RD.idxR (i := 0) (o := (0 * 1 + 0)) runUnderlying32 sizeOf5 rfl hRD129 rfl rfl (by omega) (by rfl)) (qq rfl (RD.ldR (i := 0) (j := 0) (u := .int .u8 ((gt x120 0).toNat : Int)) isAgg5 rfl hRD129 (gt_some (by omega)) (by rfl) rfl sb) (qq rfl (RD.convI runUnderlying5 runUnderlying3 rfl (by omega) (by omega)) (qq rfl (RD.loadA (i := 1) isAgg36 sizeOf36 rfl rfl (Nat.le_of_ble_eq_true rfl) (id_all _)) (qq rfl (RD.build (v := lnkV (⟨((gt x120 0).toNat : Int), x133⟩ : Lnk)) rfl (fun w => by simp [Instr.build, zeroValue46, runUnderlying46, sizeOf36, sizeOf3, Value.cells, Instr.fill, lnkV, idV])) (qq rfl (RD.fieldAddr (o := 36) runUnderlying48 rfl rfl sizeOf46 rfl) (TE_putC 0 _ _ [(b7, .cells (objV (⟨((gt x8 0).toNat : Int), [], [], (fun _ => 0), [], (⟨((gt x120 0).toNat : Int), x133⟩ : Lnk), ⟨#[]⟩⟩ : Ob) (.slice none 0 0) (.slice none 0 0) (.slice none 0 0)).cells 48 (0, 0))] rfl sizeOf46 trivial rfl rfl rfl rfl rfl rfl (put_obj_tg _ _ _ _ _) rfl (.inl hb7) (TE_nil ?_)))))))))
       refine plG [] ((b7, .cells (objV (⟨((gt x8 0).toNat : Int), [], [], (fun _ => 0), [], (⟨((gt x120 0).toNat : Int), x133⟩ : Lnk), ⟨#[]⟩⟩ : Ob) (.slice none 0 0) (.slice none 0 0) (.slice none 0 0)).cells 48 (0, 0)) :: (b29, .cells #[sv146] 223 (0, 0)) :: (b22, .cells (idV x133).cells 36 (0, 0)) :: (b2, .cells (objV (⟨0, [], [], (fun _ => 0), [], (⟨0, (fun _ => 0)⟩ : Lnk), ⟨#[]⟩⟩ : Ob) (.slice none 0 0) (.slice none 0 0) (.slice none 0 0)).cells 48 (0, 0)) :: ((bldMx 5 byteC b st1) ++ ((bldMx 5 byteC x120 st124) ++ ((bldMx 5 byteC x8 st12) ++ HX)))) (qm rfl (qq rfl (RD.fieldAddr (o := 69) runUnderlying48 rfl rfl sizeOf9 rfl) (TE_storeC 0 _ _ ((b7, .cells (objV (⟨((gt x8 0).toNat : Int), [], [], (fun _ => 0), [], (⟨((gt x120 0).toNat : Int), x133⟩ : Lnk), x143⟩ : Ob) (.slice none 0 0) (.slice none 0 0) (.slice none 0 0)).cells 48 (0, 0)) :: (b29, .cells #[sv146] 223 (0, 0)) :: (b22, .cells (idV x133).cells 36 (0, 0)) :: (b2, .cells (objV (⟨0, [], [], (fun _ => 0), [], (⟨0, (fun _ => 0)⟩ : Lnk), ⟨#[]⟩⟩ : Ob) (.slice none 0 0) (.slice none 0 0) (.slice none 0 0)).cells 48 (0, 0)) :: ((bldMx 5 byteC b st1) ++ ((bldMx 5 byteC x120 st124) ++ ((bldMx 5 byteC x8 st12) ++ HX)))) rfl sizeOf9 trivial rfl rfl rfl rfl rfl rfl (put_obj_m _ _ _ _ _) rfl (.inl hb7) (n0 (sq (pl (ql rfl (RD.loadA (i := 0) isAgg48 sizeOf48 rfl rfl (Nat.le_of_ble_eq_true rfl) (obj_all _ _ _ _)) (qm rfl (TE_putCW 3 _ _ ((b7, .cells (objV (⟨((gt x8 0).toNat : Int), [], [], (fun _ => 0), [], (⟨((gt x120 0).toNat : Int), x133⟩ : Lnk), x143⟩ : Ob) (.slice none 0 0) (.slice none 0 0) (.slice none 0 0)).cells 48 (0, 0)) :: (b29, .cells #[sv146] 223 (0, 0)) :: (b22, .cells (idV x133).cells 36 (0, 0)) :: (b2, .cells (objV (⟨((gt x8 0).toNat : Int), [], [], (fun _ => 0), [], (⟨((gt x120 0).toNat : Int), x133⟩ : Lnk), x143⟩ : Ob) (.slice none 0 0) (.slice none 0 0) (.slice none 0 0)).cells 48 (0, 0)) :: ((bldMx 5 byteC b st1) ++ ((bldMx 5 byteC x120 st124) ++ ((bldMx 5 byteC x8 st12) ++ HX)))) rfl sizeOf48 trivial rfl rfl rfl (objV_one _ _ _ _ rfl rfl rfl) rfl rfl rfl rfl (.inl hb2) ?_)))))))))
       exact qa rfl (n0 (rt (pn_doneF rfl ⟨objV (⟨((gt x8 0).toNat : Int), [], [], (fun _ => 0), [], (⟨((gt x120 0).toNat : Int), x133⟩ : Lnk), x143⟩ : Ob) (.slice none 0 0) (.slice none 0 0) (.slice none 0 0), _, b2, 0, rfl, rfl, load_agg (i := 3) isAgg48 sizeOf48 rfl (Nat.le_of_ble_eq_true rfl) (obj_all _ _ _ _), ⟨_, _, rfl, rfl, rfl⟩⟩ ⟨(⟨((gt x8 0).toNat : Int), [], [], (fun _ => 0), [], (⟨((gt x120 0).toNat : Int), x133⟩ : Lnk), x143⟩ : Ob), _, none, none, none, rdU_4 (RdU.ok hu13 (by omega)) hc21 hc35 hc66 hc118 hu125 hu137 hu147 hc152, (show BldOk 1 byteC [] none from BldOk.nil), (show BldOk 34 entC [] none from BldOk.nil), (show BldOk 32 idC [] none from BldOk.nil), rfl, (show ([] : Mem) = _ from by simp [bldMx])⟩ (fun _ h => h.sp (fun _ => Nat.zero_le _)) (fun _ he => nomatch he))))
      ·exact sk (sq (pl (ql rfl (RD.loadA (i := 2) isAgg48 sizeOf48 rfl rfl (Nat.le_of_ble_eq_true rfl) (obj_all _ _ _ _)) (qm rfl (TE_putCW 3 _ _ ((b29, .cells #[sv146] 223 (0, 0)) :: (b22, .cells (idV x133).cells 36 (0, 0)) :: (b7, .cells (objV (⟨((gt x8 0).toNat : Int), [], [], (fun _ => 0), [], (⟨0, (fun _ => 0)⟩ : Lnk), ⟨#[]⟩⟩ : Ob) (.slice none 0 0) (.slice none 0 0) (.slice none 0 0)).cells 48 (0, 0)) :: (b2, .cells (objV (⟨((gt x8 0).toNat : Int), [], [], (fun _ => 0), [], (⟨0, (fun _ => 0)⟩ : Lnk), ⟨#[]⟩⟩ : Ob) (.slice none 0 0) (.slice none 0 0) (.slice none 0 0)).cells 48 (0, 0)) :: ((bldMx 5 byteC b st1) ++ ((bldMx 5 byteC x120 st124) ++ ((bldMx 5 byteC x8 st12) ++ HX)))) rfl sizeOf48 trivial rfl rfl rfl (objV_one _ _ _ _ rfl rfl rfl) rfl rfl rfl rfl (.inl hb2) (qa rfl (n0 (rt (pn_doneF rfl ⟨objV (⟨((gt x8 0).toNat : Int), [], [], (fun _ => 0), [], (⟨0, (fun _ => 0)⟩ : Lnk), ⟨#[]⟩⟩ : Ob) (.slice none 0 0) (.slice none 0 0) (.slice none 0 0), _, b2, 0, rfl, rfl, load_agg (i := 3) isAgg48 sizeOf48 rfl (Nat.le_of_ble_eq_true rfl) (obj_all _ _ _ _), ⟨_, _, rfl, rfl, rfl⟩⟩ ⟨(⟨((gt x8 0).toNat : Int), [], [], (fun _ => 0), [], (⟨0, (fun _ => 0)⟩ : Lnk), ⟨#[]⟩⟩ : Ob), _, none, none, none, rdU_4n (RdU.ok hu13 (by omega)) hc21 hc35 hc66 hc118 hu125 hu137 hu147 hc152, (show BldOk 1 byteC [] none from BldOk.nil), (show BldOk 34 entC [] none from BldOk.nil), (show BldOk 32 idC [] none from BldOk.nil), rfl, (show ([] : Mem) = _ from by simp [bldMx])⟩ (fun _ h => h.sp (fun _ => Nat.zero_le _)) (fun _ he => nomatch he))))))))))
     ·exact sk (sq (pl (ql rfl (RD.loadA (i := 0) isAgg48 sizeOf48 rfl rfl (Nat.le_of_ble_eq_true rfl) (obj_all _ _ _ _)) (qm rfl (TE_putCW 2 _ _ ((b7, .cells (objV (⟨((gt x8 0).toNat : Int), [], [], (fun _ => 0), [], (⟨0, (fun _ => 0)⟩ : Lnk), ⟨#[]⟩⟩ : Ob) (.slice none 0 0) (.slice none 0 0) (.slice none 0 0)).cells 48 (0, 0)) :: (b29, .cells #[sv11] 223 (0, 0)) :: (b2, .cells (objV (⟨((gt x8 0).toNat : Int), [], [], (fun _ => 0), [], (⟨0, (fun _ => 0)⟩ : Lnk), ⟨#[]⟩⟩ : Ob) (.slice none 0 0) (.slice none 0 0) (.slice none 0 0)).cells 48 (0, 0)) :: ((bldMx 5 byteC x8 st12) ++ ((bldMx 5 byteC b st1) ++ HX))) rfl sizeOf48 trivial rfl rfl rfl (objV_one _ _ _ _ rfl rfl rfl) rfl rfl rfl rfl (.inl hb2) (qa rfl (n0 (rt (pn_doneF rfl ⟨objV (⟨((gt x8 0).toNat : Int), [], [], (fun _ => 0), [], (⟨0, (fun _ => 0)⟩ : Lnk), ⟨#[]⟩⟩ : Ob) (.slice none 0 0) (.slice none 0 0) (.slice none 0 0), _, b2, 0, rfl, rfl, load_agg (i := 2) isAgg48 sizeOf48 rfl (Nat.le_of_ble_eq_true rfl) (obj_all _ _ _ _), ⟨_, _, rfl, rfl, rfl⟩⟩ ⟨(⟨((gt x8 0).toNat : Int), [], [], (fun _ => 0), [], (⟨0, (fun _ => 0)⟩ : Lnk), ⟨#[]⟩⟩ : Ob), _, none, none, none, rdU_0 (RdU.ok hu13 (by omega)) (by omega) hc21 hc35 hc66 hc118, (show BldOk 1 byteC [] none from BldOk.nil), (show BldOk 34 entC [] none from BldOk.nil), (show BldOk 32 idC [] none from BldOk.nil), rfl, (show ([] : Mem) = _ from by simp [bldMx])⟩ (fun _ h => h.sp (fun _ => Nat.zero_le _)) (fun _ he => nomatch he))))))))))
/-- An object's bytes; none, if it may not be. -/
def encO (x : Ob) : List UInt8 := if obOkB x then obB x else []
theorem encO_4000 (x : Ob) : (encO x).length ≤ 4000 := by
  unfold encO
  split
  · exact obB_4000 (by assumption)
  · exact Nat.zero_le _
theorem encO_ok {x : Ob} (h : err (obOkB x) 70 = 0) : encO x = obB x := by rw [encO, if_pos (err0 h)]
theorem encO_no {x : Ob} (h : obOkB x = false) : encO x = [] := by rw [encO, h]; rfl
/-- What bytes are read as; no object, if they are none. -/
def pX (b : List UInt8) : Ob := (parseM b).getD ⟨0, [], [], (fun _ => 0), [], (⟨0, (fun _ => 0)⟩ : Lnk), ⟨#[]⟩⟩
def pE (b : List UInt8) : Int := if (parseM b).isSome then 0 else 70
theorem pX_some {b : List UInt8} {x : Ob} (h : parseM b = some x) : pX b = x := by rw [pX, h]; rfl
theorem pE_some {b : List UInt8} {x : Ob} (h : parseM b = some x) : pE b = 0 := by rw [pE, h]; rfl
theorem pX_none {b : List UInt8} (h : parseM b = none) : pX b = ⟨0, [], [], (fun _ => 0), [], (⟨0, (fun _ => 0)⟩ : Lnk), ⟨#[]⟩⟩ := by rw [pX, h]; rfl
theorem pE_none {b : List UInt8} (h : parseM b = none) : pE b = 70 := by rw [pE, h]; rfl
theorem kindM_pX (b : List UInt8) : kindM b = (pX b).k := by
  unfold kindM pX
  cases parseM b <;> rfl
theorem RdR.yes' {b : List UInt8} {x : Ob} {e : Int} (h : RdR b x e) (he : e = 0) (hc : ¬ ¬ err (obOkB x) 70 = 0 ∧ ¬ ¬ (⟨(encO x).toArray⟩ : ByteArray) = ⟨b.toArray⟩) : parseM b = some x := by
  obtain ⟨h1, h2⟩ := hc
  rw [Decidable.not_not] at h1 h2
  exact h.yes he h1 ((encO_ok h1).symm.trans (ba_eq.1 h2))
theorem RdR.not' {b : List UInt8} {x : Ob} {e : Int} (h : RdR b x e) (he : e = 0) (hc : ¬ err (obOkB x) 70 = 0 ∨ ¬ (⟨(encO x).toArray⟩ : ByteArray) = ⟨b.toArray⟩) : parseM b = none := by
  refine h.not he ?_
  by_cases h1 : err (obOkB x) 70 = 0
  · rcases hc with hc | hc
    · exact absurd h1 hc
    · exact .inr fun h2 => hc (by rw [encO_ok h1, h2])
  · exact .inl h1
theorem zob_ok : ObOk ⟨0, [], [], (fun _ => 0), [], (⟨0, (fun _ => 0)⟩ : Lnk), ⟨#[]⟩⟩ := ok_k0 0

theorem c_obEncU (x : Ob) (xd : Value) (xe : Value) (xp : Value) (HX : Mem) (w : World) (hbxd : Rdb HX xd x.data) (hbxe : Rdx 34 (entC) HX xe x.ents) (hbxp : Rdx 32 (idC) HX xp x.pars) (hox : ObOk x) (hH : Hp HX w) : Calls Tryz.prog 28 #[objV x xd xe xp] w (Ret w [] fun v H1 => ∃ st', BldOk 1 (byteC) (encO x) st' ∧ v = .tuple #[bldVx (encO x) st', .int .i64 (err (obOkB x) 70)] ∧ H1 = bldMx 5 (byteC) (encO x) st') := by
  refine (c_obEncode x xd xe xp HX w hbxd hbxe hbxp hox hH).mono ?_
  rintro e w' ⟨v, H1, rfl, ⟨hok, st', hb, rfl, rfl⟩ | ⟨hok, rfl, rfl⟩, h3⟩
  · have e1 : encO x = obB x := by rw [encO, if_pos hok]
    exact ⟨_, _, rfl, ⟨st', by rw [e1]; exact hb, by rw [e1, hok]; rfl, by rw [e1]⟩, h3⟩
  · have e1 : encO x = [] := encO_no hok
    exact ⟨_, _, rfl, ⟨none, by rw [e1]; exact BldOk.nil, by rw [e1, hok]; rfl, by rw [e1]; rfl⟩, h3⟩

theorem c_r7EncU (x : Ob) (xd : Value) (xe : Value) (xp : Value) (HX : Mem) (w : World) (hbxd : Rdb HX xd x.data) (hbxe : Rdx 34 (entC) HX xe x.ents) (hbxp : Rdx 32 (idC) HX xp x.pars) (hox : ObOk x) (hH : Hp HX w) : Calls Tryz.prog 29 #[objV x xd xe xp] w (Ret w [] fun v H1 => ∃ st', BldOk 1 (byteC) (encO x) st' ∧ v = .tuple #[bldVx (encO x) st', .int .i64 (err (obOkB x) 70)] ∧ H1 = bldMx 5 (byteC) (encO x) st') := by
  refine (c_r7Enc x xd xe xp HX w hbxd hbxe hbxp hox hH).mono ?_
  rintro e w' ⟨v, H1, rfl, ⟨hok, st', hb, rfl, rfl⟩ | ⟨hok, rfl, rfl⟩, h3⟩
  · have e1 : encO x = obB x := by rw [encO, if_pos hok]
    exact ⟨_, _, rfl, ⟨st', by rw [e1]; exact hb, by rw [e1, hok]; rfl, by rw [e1]⟩, h3⟩
  · have e1 : encO x = [] := encO_no hok
    exact ⟨_, _, rfl, ⟨none, by rw [e1]; exact BldOk.nil, by rw [e1, hok]; rfl, by rw [e1]; rfl⟩, h3⟩

theorem c_r7ParseU (bv : Value) (b : List UInt8) (HX : Mem) (w : World) (hbb : Rdb HX bv b) (hlb : b.length ≤ 1000000) (hH : Hp HX w) : Calls Tryz.prog 31 #[bv] w (Ret w [] fun v H1 => ∃ s1 s2 s3, ObOk (pX b) ∧ BldOk 1 (byteC) (pX b).data s1 ∧ BldOk 34 (entC) (pX b).ents s2 ∧ BldOk 32 (idC) (pX b).pars s3 ∧ v = .tuple #[objV (pX b) (bldVx (pX b).data s1) (bldVx (pX b).ents s2) (bldVx (pX b).pars s3), .int .i64 (pE b)] ∧ H1 = (bldMx 5 (byteC) (pX b).data s1 ++ (bldMx 113 (entC) (pX b).ents s2 ++ bldMx 36 (idC) (pX b).pars s3))) := by
 refine fn_enter (args := [_]) func31 rfl ntmps31 rfl hH (sq (pl (TE_allocC (objV (⟨0, [], [], (fun _ => 0), [], (⟨0, (fun _ => 0)⟩ : Lnk), ⟨#[]⟩⟩ : Ob) (.slice none 0 0) (.slice none 0 0) (.slice none 0 0)).cells rfl zeroValue48 rfl trivial rfl fun b2 hb2 => (qa rfl (n0 (sq (pl (qm rfl (cG rfl call90 (fun w hw => c_r7Read bv b HX w hbb.s hlb hw.s) ?_)))))))))
 rintro v14 H15 ⟨x1, e2, st5, st8, st11, hrd3, hbo6, hbo9, hbo12, rfl, rfl⟩ hX4
 have hRD7 := hbo6.rdx (u := 5) byteC_len
 have hRD10 := hbo9.rdx (u := 113) entC_len
 have hRD13 := hbo12.rdx (u := 36) idC_len
 refine tsp ((b2, .cells (objV (⟨0, [], [], (fun _ => 0), [], (⟨0, (fun _ => 0)⟩ : Lnk), ⟨#[]⟩⟩ : Ob) (.slice none 0 0) (.slice none 0 0) (.slice none 0 0)).cells 48 (0, 0)) :: ((bldMx 5 (byteC) x1.data st5) ++ ((bldMx 113 (entC) x1.ents st8) ++ ((bldMx 36 (idC) x1.pars st11) ++ HX)))) (qm rfl (qe rfl (qe rfl (TE_allocC (objV (⟨0, [], [], (fun _ => 0), [], (⟨0, (fun _ => 0)⟩ : Lnk), ⟨#[]⟩⟩ : Ob) (.slice none 0 0) (.slice none 0 0) (.slice none 0 0)).cells rfl zeroValue48 rfl trivial rfl fun b4 hb4 => (TE_putCW 0 _ _ ((b4, .cells (objV x1 (bldVx x1.data st5) (bldVx x1.ents st8) (bldVx x1.pars st11)).cells 48 (0, 0)) :: (b2, .cells (objV (⟨0, [], [], (fun _ => 0), [], (⟨0, (fun _ => 0)⟩ : Lnk), ⟨#[]⟩⟩ : Ob) (.slice none 0 0) (.slice none 0 0) (.slice none 0 0)).cells 48 (0, 0)) :: ((bldMx 5 byteC x1.data st5) ++ ((bldMx 113 entC x1.ents st8) ++ ((bldMx 36 idC x1.pars st11) ++ HX)))) rfl sizeOf48 trivial rfl rfl rfl (objV_one _ _ _ _ (bvx_one _ _) (bvx_one _ _) (bvx_one _ _)) rfl rfl rfl rfl (.inl hb4) (qa rfl (n0 (sq (sq ?_)))))))))
 refine pl (qm rfl (qq rfl (RD.neq rfl rfl) (n0 (pn_condN rfl (fun hc16 => ?_) (fun hc16 => ?_)))))
 ·refine sq (pl (qq rfl (RD.build (v := objV (⟨0, [], [], (fun _ => 0), [], (⟨0, (fun _ => 0)⟩ : Lnk), ⟨#[]⟩⟩ : Ob) (.slice none 0 0) (.slice none 0 0) (.slice none 0 0)) rfl (fun w => by kernel_rfl)) (TE_putCW 1 _ _ ((b4, .cells (objV x1 (bldVx x1.data st5) (bldVx x1.ents st8) (bldVx x1.pars st11)).cells 48 (0, 0)) :: (b2, .cells (objV (⟨0, [], [], (fun _ => 0), [], (⟨0, (fun _ => 0)⟩ : Lnk), ⟨#[]⟩⟩ : Ob) (.slice none 0 0) (.slice none 0 0) (.slice none 0 0)).cells 48 (0, 0)) :: ((bldMx 5 byteC x1.data st5) ++ ((bldMx 113 entC x1.ents st8) ++ ((bldMx 36 idC x1.pars st11) ++ HX)))) rfl sizeOf48 trivial rfl rfl rfl (objV_one _ _ _ _ rfl rfl rfl) rfl rfl rfl rfl (.inl hb2) (qa rfl (n0 (rt ?_))))))
  have hpm := RdR.bad hrd3 hc16
  have hpx := pX_none hpm; have hpe := pE_none hpm
  exact pn_doneF rfl ⟨objV (⟨0, [], [], (fun _ => 0), [], (⟨0, (fun _ => 0)⟩ : Lnk), ⟨#[]⟩⟩ : Ob) (.slice none 0 0) (.slice none 0 0) (.slice none 0 0), _, b2, 0, rfl, rfl, load_agg (i := 1) isAgg48 sizeOf48 rfl (Nat.le_of_ble_eq_true rfl) (obj_all _ _ _ _), ⟨_, _, rfl, rfl, rfl⟩⟩ ⟨none, none, none, (by rw [hpx]; exact zob_ok), (by rw [hpx]; exact (show BldOk 1 byteC [] none from BldOk.nil)), (by rw [hpx]; exact (show BldOk 34 entC [] none from BldOk.nil)), (by rw [hpx]; exact (show BldOk 32 idC [] none from BldOk.nil)), (by rw [hpx, hpe] <;> rfl), (show ([] : Mem) = _ from by rw [hpx] <;> simp [bldMx])⟩ (fun _ h => h.sp (fun _ => Nat.zero_le _)) (fun _ he => nomatch he)
 ·refine sk (sq (pl (ql rfl (RD.loadA (i := 0) isAgg48 sizeOf48 rfl rfl (Nat.le_of_ble_eq_true rfl) (obj_all _ _ _ _)) (cG rfl call29 (fun w hw => c_r7EncU x1 (bldVx x1.data st5) (bldVx x1.ents st8) (bldVx x1.pars st11) ((bldMx 5 byteC x1.data st5) ++ ((bldMx 113 entC x1.ents st8) ++ (bldMx 36 idC x1.pars st11))) w ((Rdb.of_x hRD7).mono sb) hRD10.s hRD13.s (RdR.ob hrd3 (by omega)) hw.s) ?_))))
  rintro v21 H22 ⟨st17, hbo18, rfl, rfl⟩ hX19
  have hRD20 := hbo18.rdx (u := 5) byteC_len
  refine tsp ((b4, .cells (objV x1 (bldVx x1.data st5) (bldVx x1.ents st8) (bldVx x1.pars st11)).cells 48 (0, 0)) :: (b2, .cells (objV (⟨0, [], [], (fun _ => 0), [], (⟨0, (fun _ => 0)⟩ : Lnk), ⟨#[]⟩⟩ : Ob) (.slice none 0 0) (.slice none 0 0) (.slice none 0 0)).cells 48 (0, 0)) :: ((bldMx 5 (byteC) (encO x1) st17) ++ ((bldMx 5 (byteC) x1.data st5) ++ ((bldMx 113 (entC) x1.ents st8) ++ ((bldMx 36 (idC) x1.pars st11) ++ HX))))) (qm rfl (qe rfl (qe rfl (qa rfl (qa rfl (n0 (sq (sq (pl ?_)))))))))
  refine qm rfl (qq rfl (RD.neq rfl rfl) (qm rfl (TE_join (σ := Unit) (fun _ => [(2, .pointer (some ⟨b2, 0, none⟩)), (4, .pointer (some ⟨b4, 0, none⟩)), (29, .bool ((!decide ((err (obOkB x1) 70) = 0)) || (!decide ((⟨(encO x1).toArray⟩ : ByteArray) = (⟨b.toArray⟩ : ByteArray)))))]) (fun _ => ((b4, .cells (objV x1 (bldVx x1.data st5) (bldVx x1.ents st8) (bldVx x1.pars st11)).cells 48 (0, 0)) :: (b2, .cells (objV (⟨0, [], [], (fun _ => 0), [], (⟨0, (fun _ => 0)⟩ : Lnk), ⟨#[]⟩⟩ : Ob) (.slice none 0 0) (.slice none 0 0) (.slice none 0 0)).cells 48 (0, 0)) :: ((bldMx 5 byteC (encO x1) st17) ++ ((bldMx 5 byteC x1.data st5) ++ ((bldMx 113 entC x1.ents st8) ++ ((bldMx 36 idC x1.pars st11) ++ HX)))))) (fun _ => True) ?_ ?_)))
  ·refine TE_ndec (fun hf23 => ?_) (fun hf23 => ?_)
   ·exact qs rfl (qs rfl (qs rfl (qs rfl (qs rfl (qT rfl (n0 (pn_give () trivial ⟨rfl, rfl, congrArg (fun b => some (Value.bool b)) (by first | (simp [hf23]; done) | (simp only [decide_eq_false hf23]; rfl) | (simp only [decide_eq_false hf23]; simp; done)), trivial⟩ sb)))))))
   ·exact qg rfl (ql rfl (RD.str_of_bytes underlying32 underlying9 underlying5 rfl (BytesIn.mono ((Rdb.of_x hRD20)).bytes sb)) (qg rfl (ql rfl (RD.str_of_bytes underlying32 underlying9 underlying5 rfl (BytesIn.s (hbb).bytes)) (TE_gq rfl rfl rfl rfl (RD.neq_string rfl rfl) rfl (qF rfl (n0 (pn_give () trivial ⟨rfl, rfl, congrArg (fun b => some (Value.bool b)) (by first | (simp [hf23]; done) | (simp only [decide_eq_true hf23]; rfl) | (simp only [decide_eq_true hf23]; simp; done)), trivial⟩ sb)))))))
  rintro _ -
  refine pn_cond rfl (fun hc24 => ?_) (fun hc24 => ?_)
  ·simp only [Bool.not_eq_true', Bool.or_eq_true, decide_eq_false_iff_not] at hc24
   refine sq (pl (qq rfl (RD.build (v := objV (⟨0, [], [], (fun _ => 0), [], (⟨0, (fun _ => 0)⟩ : Lnk), ⟨#[]⟩⟩ : Ob) (.slice none 0 0) (.slice none 0 0) (.slice none 0 0)) rfl (fun w => by kernel_rfl)) (TE_putCW 1 _ _ ((b4, .cells (objV x1 (bldVx x1.data st5) (bldVx x1.ents st8) (bldVx x1.pars st11)).cells 48 (0, 0)) :: (b2, .cells (objV (⟨0, [], [], (fun _ => 0), [], (⟨0, (fun _ => 0)⟩ : Lnk), ⟨#[]⟩⟩ : Ob) (.slice none 0 0) (.slice none 0 0) (.slice none 0 0)).cells 48 (0, 0)) :: ((bldMx 5 byteC (encO x1) st17) ++ ((bldMx 5 byteC x1.data st5) ++ ((bldMx 113 entC x1.ents st8) ++ ((bldMx 36 idC x1.pars st11) ++ HX))))) rfl sizeOf48 trivial rfl rfl rfl (objV_one _ _ _ _ rfl rfl rfl) rfl rfl rfl rfl (.inl hb2) (qa rfl (n0 (rt ?_))))))
   have hpm := RdR.not' hrd3 (by omega) hc24
   have hpx := pX_none hpm; have hpe := pE_none hpm
   exact pn_doneF rfl ⟨objV (⟨0, [], [], (fun _ => 0), [], (⟨0, (fun _ => 0)⟩ : Lnk), ⟨#[]⟩⟩ : Ob) (.slice none 0 0) (.slice none 0 0) (.slice none 0 0), _, b2, 0, rfl, rfl, load_agg (i := 1) isAgg48 sizeOf48 rfl (Nat.le_of_ble_eq_true rfl) (obj_all _ _ _ _), ⟨_, _, rfl, rfl, rfl⟩⟩ ⟨none, none, none, (by rw [hpx]; exact zob_ok), (by rw [hpx]; exact (show BldOk 1 byteC [] none from BldOk.nil)), (by rw [hpx]; exact (show BldOk 34 entC [] none from BldOk.nil)), (by rw [hpx]; exact (show BldOk 32 idC [] none from BldOk.nil)), (by rw [hpx, hpe] <;> rfl), (show ([] : Mem) = _ from by rw [hpx] <;> simp [bldMx])⟩ (fun _ h => h.sp (fun _ => Nat.zero_le _)) (fun _ he => nomatch he)
  ·simp only [Bool.not_eq_false', Bool.or_eq_false_iff, decide_eq_true_eq] at hc24
   refine sk (sq (pl (ql rfl (RD.loadA (i := 0) isAgg48 sizeOf48 rfl rfl (Nat.le_of_ble_eq_true rfl) (obj_all _ _ _ _)) (TE_putCW 1 _ _ ((b4, .cells (objV x1 (bldVx x1.data st5) (bldVx x1.ents st8) (bldVx x1.pars st11)).cells 48 (0, 0)) :: (b2, .cells (objV x1 (bldVx x1.data st5) (bldVx x1.ents st8) (bldVx x1.pars st11)).cells 48 (0, 0)) :: ((bldMx 5 byteC (encO x1) st17) ++ ((bldMx 5 byteC x1.data st5) ++ ((bldMx 113 entC x1.ents st8) ++ ((bldMx 36 idC x1.pars st11) ++ HX))))) rfl sizeOf48 trivial rfl rfl rfl (objV_one _ _ _ _ (bvx_one _ _) (bvx_one _ _) (bvx_one _ _)) rfl rfl rfl rfl (.inl hb2) (qa rfl (n0 (rt ?_)))))))
   have hpm := RdR.yes' hrd3 (by omega) (by simpa using hc24)
   have hpx := pX_some hpm; have hpe := pE_some hpm
   exact pn_doneF rfl ⟨objV x1 (bldVx x1.data st5) (bldVx x1.ents st8) (bldVx x1.pars st11), _, b2, 0, rfl, rfl, load_agg (i := 1) isAgg48 sizeOf48 rfl (Nat.le_of_ble_eq_true rfl) (obj_all _ _ _ _), ⟨_, _, rfl, rfl, rfl⟩⟩ ⟨st5, st8, st11, (by rw [hpx]; exact (RdR.ob hrd3 (by omega))), (by rw [hpx]; exact hbo6), (by rw [hpx]; exact hbo9), (by rw [hpx]; exact hbo12), (by rw [hpx, hpe] <;> rfl), (show (((bldMx 5 byteC x1.data st5) ++ ((bldMx 113 entC x1.ents st8) ++ (bldMx 36 idC x1.pars st11))) : Mem) = _ from by rw [hpx] <;> simp [bldMx])⟩ sb (fun e he => Or.symm ((ownA (ownN (oL hX4)) (ownA (ownN (oL (oR hX4))) (ownN (oR (oR hX4))))) e he))
theorem c_parseU (bv : Value) (b : List UInt8) (HX : Mem) (w : World) (hbb : Rdb HX bv b) (hlb : b.length ≤ 1000000) (hH : Hp HX w) : Calls Tryz.prog 30 #[bv] w (Ret w [] fun v H1 => ∃ s1 s2 s3, ObOk (pX b) ∧ BldOk 1 (byteC) (pX b).data s1 ∧ BldOk 34 (entC) (pX b).ents s2 ∧ BldOk 32 (idC) (pX b).pars s3 ∧ v = .tuple #[objV (pX b) (bldVx (pX b).data s1) (bldVx (pX b).ents s2) (bldVx (pX b).pars s3), .int .i64 (pE b)] ∧ H1 = (bldMx 5 (byteC) (pX b).data s1 ++ (bldMx 113 (entC) (pX b).ents s2 ++ bldMx 36 (idC) (pX b).pars s3))) := by
  refine (c_parse bv b HX w hbb hlb hH).mono ?_
  rintro e w' ⟨v, H1, rfl, ⟨x, s1, s2, s3, hp, hx, h1, h2, h3, rfl, rfl⟩ | ⟨hp, rfl, rfl⟩, hf⟩
  · have e1 := pX_some hp; have e2 := pE_some hp
    exact ⟨_, _, rfl, ⟨s1, s2, s3, by rw [e1]; exact hx, by rw [e1]; exact h1, by rw [e1]; exact h2, by rw [e1]; exact h3, by rw [e1, e2], by rw [e1]⟩, hf⟩
  · have e1 := pX_none hp; have e2 := pE_none hp
    exact ⟨_, _, rfl, ⟨none, none, none, by rw [e1]; exact zob_ok, by rw [e1]; exact BldOk.nil, by rw [e1]; exact BldOk.nil, by rw [e1]; exact BldOk.nil, by rw [e1, e2]; rfl, by rw [e1]; rfl⟩, hf⟩

end Go.Proofs.YtmjmaloapafnlaaGreatDoor
