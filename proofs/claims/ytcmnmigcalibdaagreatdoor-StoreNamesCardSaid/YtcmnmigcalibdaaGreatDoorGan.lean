import Derived.Test.YtcmnmigcalibdaaGreatDoorGam
namespace Go.Proofs.YtcmnmigcalibdaaGreatDoor
open Go.Proofs.Tryz
open Go Go.Mv
set_option maxRecDepth 8000
theorem bd_object_blob (x : Ob) (d e p : Value) (w : World) : (Instr.build 265 #[(0, objV x d e p)]).run Tryz.prog w = .ok (objV x d e p) w := by kernel_rfl

theorem inv_blob_may : InvOk Tryz.prog 265 "marshes/object.may" 302 := by
  have h : ((Tryz.t265).methods.find? (·.name == "marshes/object.may")).isSome = true := by kernel_rfl
  exact invOk_of (i := Tryz.t265) (m := Option.get _ h) (by kernel_rfl) (Option.some_get h).symm (by kernel_rfl) (by kernel_rfl) underlying265 (fun _ h => nomatch h) call302

theorem inv_blob_bare : InvOk Tryz.prog 265 "marshes/object.bare" 300 := by
  have h : ((Tryz.t265).methods.find? (·.name == "marshes/object.bare")).isSome = true := by kernel_rfl
  exact invOk_of (i := Tryz.t265) (m := Option.get _ h) (by kernel_rfl) (Option.some_get h).symm (by kernel_rfl) (by kernel_rfl) underlying265 (fun _ h => nomatch h) call300

theorem bd_object_tree (x : Ob) (d e p : Value) (w : World) : (Instr.build 266 #[(0, objV x d e p)]).run Tryz.prog w = .ok (objV x d e p) w := by kernel_rfl

theorem inv_tree_may : InvOk Tryz.prog 266 "marshes/object.may" 306 := by
  have h : ((Tryz.t266).methods.find? (·.name == "marshes/object.may")).isSome = true := by kernel_rfl
  exact invOk_of (i := Tryz.t266) (m := Option.get _ h) (by kernel_rfl) (Option.some_get h).symm (by kernel_rfl) (by kernel_rfl) underlying266 (fun _ h => nomatch h) call306

theorem inv_tree_bare : InvOk Tryz.prog 266 "marshes/object.bare" 304 := by
  have h : ((Tryz.t266).methods.find? (·.name == "marshes/object.bare")).isSome = true := by kernel_rfl
  exact invOk_of (i := Tryz.t266) (m := Option.get _ h) (by kernel_rfl) (Option.some_get h).symm (by kernel_rfl) (by kernel_rfl) underlying266 (fun _ h => nomatch h) call304

theorem bd_object_commit (x : Ob) (d e p : Value) (w : World) : (Instr.build 267 #[(0, objV x d e p)]).run Tryz.prog w = .ok (objV x d e p) w := by kernel_rfl

theorem inv_commit_may : InvOk Tryz.prog 267 "marshes/object.may" 318 := by
  have h : ((Tryz.t267).methods.find? (·.name == "marshes/object.may")).isSome = true := by kernel_rfl
  exact invOk_of (i := Tryz.t267) (m := Option.get _ h) (by kernel_rfl) (Option.some_get h).symm (by kernel_rfl) (by kernel_rfl) underlying267 (fun _ h => nomatch h) call318

theorem inv_commit_bare : InvOk Tryz.prog 267 "marshes/object.bare" 316 := by
  have h : ((Tryz.t267).methods.find? (·.name == "marshes/object.bare")).isSome = true := by kernel_rfl
  exact invOk_of (i := Tryz.t267) (m := Option.get _ h) (by kernel_rfl) (Option.some_get h).symm (by kernel_rfl) (by kernel_rfl) underlying267 (fun _ h => nomatch h) call316

theorem bd_object_tag (x : Ob) (d e p : Value) (w : World) : (Instr.build 268 #[(0, objV x d e p)]).run Tryz.prog w = .ok (objV x d e p) w := by kernel_rfl

theorem inv_tag_may : InvOk Tryz.prog 268 "marshes/object.may" 323 := by
  have h : ((Tryz.t268).methods.find? (·.name == "marshes/object.may")).isSome = true := by kernel_rfl
  exact invOk_of (i := Tryz.t268) (m := Option.get _ h) (by kernel_rfl) (Option.some_get h).symm (by kernel_rfl) (by kernel_rfl) underlying268 (fun _ h => nomatch h) call323

theorem inv_tag_bare : InvOk Tryz.prog 268 "marshes/object.bare" 321 := by
  have h : ((Tryz.t268).methods.find? (·.name == "marshes/object.bare")).isSome = true := by kernel_rfl
  exact invOk_of (i := Tryz.t268) (m := Option.get _ h) (by kernel_rfl) (Option.some_get h).symm (by kernel_rfl) (by kernel_rfl) underlying268 (fun _ h => nomatch h) call321

def entsL (l : List Ent) : List Lnk := l.map fun e => ⟨e.k, e.id⟩
def parsL (l : List (Nat → Int)) : List Lnk := l.map fun p => ⟨3, p⟩
@[simp] theorem entsL_nil : entsL [] = [] := rfl
@[simp] theorem parsL_nil : parsL [] = [] := rfl
theorem entsL_len (l : List Ent) : (entsL l).length = l.length := by simp [entsL]
theorem parsL_len (l : List (Nat → Int)) : (parsL l).length = l.length := by simp [parsL]
def lastN (l : List Ent) (i : Nat) : ByteArray := if i = 0 then ⟨#[]⟩ else (gt l (i - 1)).name
theorem slt_nil (a : ByteArray) : slt ⟨#[]⟩ a = decide (1 ≤ a.size) := by
  unfold slt
  rw [Lib.toList_data, Lib.toList_data, Lib.size_eq]
  cases a.data.toList with
  | nil => rfl
  | cons c l => rw [decide_eq_true (by simp)]; rfl
theorem lastN_succ {l : List Ent} {i : Nat} : lastN l (i + 1) = (gt l i).name := rfl
theorem ent2 {l : List Ent} (i : Nat) : entAt l i = !(sle (gt l i).name (lastN l i) || (decide (64 < ((gt l i).name.size : Int)) || (hasSep (gt l i).name || (!decide ((gt l i).k = 1) && !decide ((gt l i).k = 2))))) := by
  rw [sle_not]
  have e1 : decide ((gt l i).name.size ≤ 64) = !decide (64 < ((gt l i).name.size : Int)) := by rw [← decide_not]; exact decide_eq_decide.2 (by omega)
  by_cases h : i = 0
  · rw [lastN, if_pos h, slt_nil, entAt, nameB, decide_eq_true h, e1]
    generalize decide (1 ≤ (gt l i).name.size) = a
    generalize decide (64 < ((gt l i).name.size : Int)) = b
    generalize hasSep (gt l i).name = c
    generalize decide ((gt l i).k = 1) = d
    generalize decide ((gt l i).k = 2) = e
    cases a <;> cases b <;> cases c <;> cases d <;> cases e <;> rfl
  · rw [lastN, if_neg h, entAt, nameB, decide_eq_false h, e1]
    have h1 : slt (gt l (i - 1)).name (gt l i).name = true → decide (1 ≤ (gt l i).name.size) = true := fun hs => by
      rw [← slt_nil]
      rcases slt_tri ⟨#[]⟩ (gt l (i - 1)).name with h2 | h2 | h2
      · exact slt_tr h2 hs
      · rw [h2]; exact hs
      · have : slt (gt l (i - 1)).name ⟨#[]⟩ = false := by
          cases hq : slt (gt l (i - 1)).name ⟨#[]⟩ with
          | false => rfl
          | true =>
            unfold slt at hq
            rw [Lib.toList_data, Lib.toList_data] at hq
            cases hw : (gt l (i - 1)).name.data.toList with
            | nil => rw [hw] at hq; exact absurd hq (by decide)
            | cons c r => rw [hw] at hq; exact absurd hq (by show ¬ Op.bytesLess (c :: r) [] = true; simp [Op.bytesLess])
        rw [this] at h2; cases h2
    generalize decide (1 ≤ (gt l i).name.size) = a at h1 ⊢
    generalize decide (64 < ((gt l i).name.size : Int)) = b
    generalize hasSep (gt l i).name = c
    generalize decide ((gt l i).k = 1) = d
    generalize decide ((gt l i).k = 2) = e
    generalize slt (gt l (i - 1)).name (gt l i).name = f at h1 ⊢
    cases a <;> cases b <;> cases c <;> cases d <;> cases e <;> cases f <;> first | rfl | exact absurd (h1 rfl) (by decide)
theorem ent2_F {l : List Ent} {i : Nat} {e : Bool} (h : entAt l i = !e) (hc : e = true) : entAt l i = false := by rw [h, hc]; rfl
theorem ent2_T {l : List Ent} {i : Nat} {e : Bool} (h : entAt l i = !e) (hc : e = false) : entAt l i = true := by rw [h, hc]; rfl

theorem c_blobMay (x : Ob) (xd : Value) (xe : Value) (xp : Value) (HX : Mem) (w : World) (hbxd : Rdb HX xd x.data) (hbxe : Rdx 34 (entC) HX xe x.ents) (hbxp : Rdx 32 (idC) HX xp x.pars) (hox : ObOk x) (hH : Hp HX w) : Calls Tryz.prog 302 #[objV x xd xe xp] w (Ret w [] fun v H1 => v = .bool (decide ((x.data.length : Int) ≤ 1024)) ∧ H1 = []) := by
 have hw1 := hox.d; have hw2 := hox.e; have hw3 := hox.p; have hw4 := hox.m; have hwe := hox.en
 refine fn_enter (args := [_]) func302 rfl ntmps302 rfl hH (sq (pl (TE_boxC (objV x xd xe xp).cells rfl rfl rfl trivial rfl fun b1 hb1 => (qa rfl (n0 (sq (pn_plain [3] rfl (qq rfl (RD.fieldAddr (o := 0) runUnderlying265 rfl rfl sizeOf62 rfl) (qq rfl (RD.fieldAddr (o := 1) runUnderlying62 rfl rfl sizeOf32 rfl) ?_)))))))))
 exact ql rfl (RD.load (i := 0) (v := xd) isAgg32 rfl rfl rfl) (qq rfl (RD.lenR runUnderlying32 rfl hbxd) (qq rfl (RD.leq rfl rfl) (qa rfl (n0 (rt (pn_doneS [] rfl rfl ⟨rfl, rfl⟩ (fun _ => Nat.zero_le _) (fun _ he => nomatch he)))))))
theorem c_treeMay (x : Ob) (xd : Value) (xe : Value) (xp : Value) (HX : Mem) (w : World) (hbxd : Rdb HX xd x.data) (hbxe : Rdx 34 (entC) HX xe x.ents) (hbxp : Rdx 32 (idC) HX xp x.pars) (hox : ObOk x) (hH : Hp HX w) : Calls Tryz.prog 306 #[objV x xd xe xp] w (Ret w [] fun v H1 => v = .bool (treeB x.ents) ∧ H1 = []) := by
 have hw1 := hox.d; have hw2 := hox.e; have hw3 := hox.p; have hw4 := hox.m; have hwe := hox.en
 refine fn_enter (args := [_]) func306 rfl ntmps306 rfl hH (sq (pl (TE_boxC (objV x xd xe xp).cells rfl rfl rfl trivial rfl fun b1 hb1 => (qa rfl (n0 (sq (pl (qa rfl (n0 ?_)))))))))
 refine sq (sq (pn_plain [3] rfl (qq rfl (RD.fieldAddr (o := 0) runUnderlying266 rfl rfl sizeOf62 rfl) (qq rfl (RD.fieldAddr (o := 2) runUnderlying62 rfl rfl sizeOf58 rfl) (ql rfl (RD.load (i := 0) (v := xe) isAgg58 rfl rfl rfl) (qq rfl (RD.lenX runUnderlying58 rfl hbxe) (qm rfl (n0 (pn_block ?_)))))))))
 refine lpS (σ := Nat) (fun q => [(1, .pointer (some ⟨b1, 0, none⟩)), (8, xe), (9, .int .i64 (x.ents.length : Int)), (3, .string (lastN x.ents q)), (10, .int .i64 (q : Int))]) (fun q => ((b1, .cells (objV x xd xe xp).cells 266 (0, 0)) :: HX)) (fun q => (q ≤ x.ents.length) ∧ (∀ j, j < q → entAt x.ents j = true)) (fun q => x.ents.length - q) 0 ⟨(by omega), (fun j hj => absurd hj (Nat.not_lt_zero _))⟩ ⟨rfl, rfl, rfl, rfl, rfl, trivial⟩ ?_
 rintro i ⟨hi, hall⟩
 refine sq (pl (qq rfl (RD.lss rfl rfl) (n0 (sq (pn_condD rfl (fun hc1 => ?_) (fun hc1 => ?_))))))
 ·refine sk (sq (pn_block (sq (pl (qq rfl (RD.idxR (i := i) (o := (i * 34 + 0)) runUnderlying58 sizeOf119 rfl hbxe rfl rfl (by omega) (by rfl)) (ql rfl (RD.ldRA (i := i) (j := 0) (vs := (entC (gt x.ents i))) isAgg119 sizeOf119 rfl hbxe (gt_some (by omega)) (by rfl) rfl (fun _ _ hu => by rw [Nat.zero_add]; exact hu) (entC_agg _) sb) (TE_allocC (entV (⟨⟨#[]⟩, 0, (fun _ => 0)⟩ : Ent)).cells rfl zeroValue119 rfl trivial rfl fun b5 hb5 => (TE_putCW 0 _ _ ((b5, .cells (entV (gt x.ents i)).cells 119 (0, 0)) :: (b1, .cells (objV x xd xe xp).cells 266 (0, 0)) :: HX) rfl sizeOf119 trivial rfl rfl rfl rfl rfl rfl rfl rfl (.inl hb5) (n0 ?_)))))))))
  refine sq (sq (pn_plain [7] rfl (qq rfl (RD.fieldAddr (o := 0) runUnderlying119 rfl rfl sizeOf9 rfl) (ql rfl (RD.load (i := 0) (v := .string ((gt x.ents i).name)) isAgg9 rfl rfl rfl) (qm rfl (qq rfl (RD.leq_string rfl rfl) (qm rfl (TE_join (σ := Unit) (fun _ => [(1, .pointer (some ⟨b1, 0, none⟩)), (5, .pointer (some ⟨b5, 0, none⟩)), (8, xe), (9, .int .i64 (x.ents.length : Int)), (10, .int .i64 (i : Int)), (38, .bool ((sle ((gt x.ents i).name) (lastN x.ents i)) || ((decide (64 < (((gt x.ents i).name).size : Int))) || ((hasSep ((gt x.ents i).name)) || ((!decide (((gt x.ents i).k) = 1)) && (!decide (((gt x.ents i).k) = 2)))))))]) (fun _ => ((b5, .cells (entV (gt x.ents i)).cells 119 (0, 0)) :: (b1, .cells (objV x xd xe xp).cells 266 (0, 0)) :: HX)) (fun _ => True) ?_ ?_))))))))
  ·refine TE_bool (fun hf2 => ?_) (fun hf2 => ?_)
   ·refine qs rfl (qs rfl (qs rfl (qs rfl (qT rfl (qm rfl (qs rfl (qs rfl (qs rfl (qT rfl ?_)))))))))
    refine qm rfl (qs rfl (qs rfl (qs rfl (qs rfl (TE_su rfl rfl rfl rfl (TE_su rfl rfl rfl rfl (TE_su rfl rfl rfl rfl (qs rfl (qT rfl ?_)))))))))
    exact n0 (pn_give () trivial ⟨rfl, rfl, rfl, rfl, rfl, congrArg (fun b => some (Value.bool b)) (by first | (simp [hf2]; done) | (simp only [hf2]; rfl) | (simp only [hf2]; simp; done)), trivial⟩ sb)
   ·refine TE_gq rfl rfl rfl rfl (RD.fieldAddr (o := 0) runUnderlying119 rfl rfl sizeOf9 rfl) rfl (ql rfl (RD.load (i := 0) (v := .string ((gt x.ents i).name)) isAgg9 rfl rfl rfl) (TE_gq rfl rfl rfl rfl (RD.len_string runUnderlying9 rfl) rfl (TE_gq rfl rfl rfl rfl (RD.gtr rfl rfl) rfl (qF rfl (qm rfl (TE_dec (fun hf3 => ?_) (fun hf3 => ?_)))))))
    ·refine qs rfl (qs rfl (qs rfl (qT rfl (qm rfl (qs rfl (qs rfl (qs rfl (qs rfl (TE_su rfl rfl rfl rfl ?_)))))))))
     exact TE_su rfl rfl rfl rfl (TE_su rfl rfl rfl rfl (qs rfl (qT rfl (n0 (pn_give () trivial ⟨rfl, rfl, rfl, rfl, rfl, congrArg (fun b => some (Value.bool b)) (by first | (simp [hf2, hf3]; done) | (simp only [hf2, decide_eq_true hf3]; rfl) | (simp only [hf2, decide_eq_true hf3]; simp; done)), trivial⟩ sb)))))
    ·refine TE_gq rfl rfl rfl rfl (RD.fieldAddr (o := 0) runUnderlying119 rfl rfl sizeOf9 rfl) rfl (ql rfl (RD.load (i := 0) (v := .string ((gt x.ents i).name)) isAgg9 rfl rfl rfl) (cG rfl call308 (fun w hw => c_hasSep ((gt x.ents i).name) w (Nat.le_trans (hwe _ (gt_mem (by omega))).n (by decide)) hw.s) ?_))
     rintro v4 H5 ⟨rfl, rfl⟩ -
     refine qF rfl (qm rfl (TE_bool (fun hf6 => ?_) (fun hf6 => ?_)))
     ·refine qs rfl (qs rfl (qs rfl (qs rfl (TE_su rfl rfl rfl rfl (TE_su rfl rfl rfl rfl (TE_su rfl rfl rfl rfl (qs rfl (qT rfl (n0 ?_)))))))))
      exact pn_give () trivial ⟨rfl, rfl, rfl, rfl, rfl, congrArg (fun b => some (Value.bool b)) (by first | (simp [hf2, hf3, hf6]; done) | (simp only [hf2, decide_eq_false hf3, hf6]; rfl) | (simp only [hf2, decide_eq_false hf3, hf6]; simp; done)), trivial⟩ sb
     ·refine TE_gq rfl rfl rfl rfl (RD.fieldAddr (o := 1) runUnderlying119 rfl rfl sizeOf3 rfl) rfl (ql rfl (RD.load (i := 0) (v := .int .i64 ((gt x.ents i).k)) isAgg3 rfl rfl rfl) (TE_gq rfl rfl rfl rfl (RD.neq rfl rfl) rfl (qg rfl (TE_ndec (fun hf7 => ?_) (fun hf7 => ?_)))))
      ·exact TE_gq rfl rfl rfl rfl (RD.fieldAddr (o := 1) runUnderlying119 rfl rfl sizeOf3 rfl) rfl (ql rfl (RD.load (i := 0) (v := .int .i64 ((gt x.ents i).k)) isAgg3 rfl rfl rfl) (TE_gq rfl rfl rfl rfl (RD.neq rfl rfl) rfl (TE_gq rfl rfl rfl rfl (RD.pickT rfl rfl) rfl (qF rfl (n0 (pn_give () trivial ⟨rfl, rfl, rfl, rfl, rfl, congrArg (fun b => some (Value.bool b)) (by first | (simp [hf2, hf3, hf6, hf7]; done) | (simp only [hf2, decide_eq_false hf3, hf6, decide_eq_false hf7]; rfl) | (simp only [hf2, decide_eq_false hf3, hf6, decide_eq_false hf7]; simp; done)), trivial⟩ sb))))))
      ·exact qs rfl (qs rfl (qs rfl (TE_gq rfl rfl rfl rfl (RD.pickF rfl rfl) rfl (qF rfl (n0 (pn_give () trivial ⟨rfl, rfl, rfl, rfl, rfl, congrArg (fun b => some (Value.bool b)) (by first | (simp [hf2, hf3, hf6, hf7]; done) | (simp only [hf2, decide_eq_false hf3, hf6, decide_eq_true hf7]; rfl) | (simp only [hf2, decide_eq_false hf3, hf6, decide_eq_true hf7]; simp; done)), trivial⟩ sb))))))
  rintro _ -
  refine pn_cond rfl (fun hc8 => ?_) (fun hc8 => ?_)
  ·exact sq (plG [] [] (qa rfl (n0 (rt (pn_doneS [] rfl rfl ⟨(congrArg Value.bool (tree_F2 (i := i) (by omega) (ent2_F (ent2 i) hc8)).symm), rfl⟩ (fun _ => Nat.zero_le _) (fun _ he => nomatch he))))))
  ·refine sk (pl (qq rfl (RD.fieldAddr (o := 0) runUnderlying119 rfl rfl sizeOf9 rfl) (ql rfl (RD.load (i := 0) (v := .string ((gt x.ents i).name)) isAgg9 rfl rfl rfl) (qa rfl (n0 (plG [] ((b1, .cells (objV x xd xe xp).cells 266 (0, 0)) :: HX) (qq rfl (RD.addI rfl rfl (by omega) (by omega)) (qm rfl (n0 ?_)))))))))
   have he9 : (gt x.ents i).name = (lastN x.ents (i + 1)) := lastN_succ.symm
   exact agS (i + 1) ⟨(by omega), (fun j hj => (by rcases Nat.lt_or_ge j i with h | h; exact hall j h; obtain rfl : j = i := (by omega); exact ent2_T (ent2 j) hc8))⟩ (by omega) ⟨rfl, rfl, rfl, (congrArg (fun z => some (Value.string z)) he9), rfl, trivial⟩
 ·refine xt (sq (pn_plain [3] rfl (qq rfl (RD.fieldAddr (o := 0) runUnderlying266 rfl rfl sizeOf62 rfl) (qq rfl (RD.fieldAddr (o := 2) runUnderlying62 rfl rfl sizeOf58 rfl) (ql rfl (RD.load (i := 0) (v := xe) isAgg58 rfl rfl rfl) (qq rfl (RD.lenX runUnderlying58 rfl hbxe) (qq rfl (RD.leq rfl rfl) (qa rfl (n0 ?_)))))))))
  exact rt (pn_doneS [] rfl rfl ⟨(congrArg Value.bool ((tree_T fun j hj => hall j (by omega)).trans (decide_eq_decide.2 (by omega))).symm), rfl⟩ (fun _ => Nat.zero_le _) (fun _ he => nomatch he))
theorem nodup_le {α : Type} [DecidableEq α] : ∀ {xs l : List α}, xs.Nodup → (∀ x ∈ xs, x ∈ l) → xs.length ≤ l.length
  | [], _, _, _ => Nat.zero_le _
  | x :: xs, l, h, hs => by
    rw [List.nodup_cons] at h
    have hx := hs x List.mem_cons_self
    have h1 := nodup_le (l := l.erase x) h.2 (fun y hy => (List.mem_erase_of_ne (fun he => h.1 (by rw [← he]; exact hy))).2 (hs y (List.mem_cons_of_mem _ hy)))
    rw [List.length_erase_of_mem hx] at h1
    have := List.length_pos_of_mem hx
    simp only [List.length_cons]; omega
theorem setOf_le {l xs : List (Nat → Int)} (h : SetOf l xs) : xs.length ≤ l.length := by
  have : DecidableEq (Nat → Int) := fun a b => Classical.propDecidable (a = b)
  exact nodup_le (srt_nodup h.1) fun x hx => (h.2 x).1 hx
theorem setOf_uniq {l ts : List (Nat → Int)} (h : SetOf l ts) (hc : ∀ p ∈ l, IdCan p) : decide ((ts.length : Int) = (l.length : Int)) = uniqB l := by
  have hnd : ts.Nodup := srt_nodup h.1
  have hsub : ∀ {l : List (Nat → Int)}, (∀ p ∈ l, IdCan p) → (uniqB l = true ↔ l.Nodup) := fun {l} hc => by
    constructor
    · intro hu
      rw [List.nodup_iff_pairwise_ne, List.pairwise_iff_getElem]
      intro i j hi hj hij he
      have h1 := uniq_at hu hj hij
      have e1 := gt_some hi; have e2 := gt_some hj
      rw [List.getElem?_eq_getElem hi] at e1
      rw [List.getElem?_eq_getElem hj] at e2
      rw [← Option.some.inj e1, ← Option.some.inj e2, he, sameN_self] at h1
      cases h1
    · intro hn
      refine uniq_T fun i k hi hk => ?_
      cases hs : sameN 32 (gt l i) (gt l k) with
      | false => rfl
      | true =>
        have hk' : k < l.length := by omega
        have e : gt l i = gt l k := eq_of_can (hc _ (gt_mem hi)) (hc _ (gt_mem hk')) (idCmp_zero.2 (sameN_iff.1 hs))
        rw [List.nodup_iff_pairwise_ne, List.pairwise_iff_getElem] at hn
        have e1 := gt_some hi; have e2 := gt_some hk'
        rw [List.getElem?_eq_getElem hi] at e1
        rw [List.getElem?_eq_getElem hk'] at e2
        exact absurd ((Option.some.inj e2).trans (e.symm.trans (Option.some.inj e1).symm)) (hn k i hk' hi hk)
  rw [Bool.eq_iff_iff, decide_eq_true_eq, hsub hc]
  constructor
  · intro he
    rw [List.nodup_iff_pairwise_ne, List.pairwise_iff_getElem]
    intro i j hi hj hij heq
    have h2 : SetOf (l.eraseIdx j) ts := h.congr fun x => by
      rw [List.mem_eraseIdx_iff_getElem?]
      constructor
      · intro hx
        obtain ⟨k, hk, rfl⟩ := List.getElem_of_mem hx
        by_cases hkj : k = j
        · subst hkj; exact ⟨i, by omega, by rw [List.getElem?_eq_getElem hi, heq]⟩
        · exact ⟨k, hkj, List.getElem?_eq_getElem hk⟩
      · rintro ⟨k, _, hk⟩
        exact List.mem_of_getElem? hk
    have := setOf_le h2
    rw [List.length_eraseIdx_of_lt hj] at this
    omega
  · intro hn
    have hp : ts.Perm l := (List.perm_ext_iff_of_nodup hnd hn).2 h.2
    rw [hp.length_eq]

theorem cmay_eq {x : Ob} {b : Bool} : (decide ((x.pars.length : Int) ≤ 4) && (uniqB x.pars && b)) = (parsB x.pars && b) := by
  rw [parsB, Bool.and_assoc]
  congr 1
  exact decide_eq_decide.2 (by omega)

theorem c_said (s : ByteArray) (w : World) (hs : s.size ≤ 1000000) (hH : Hp [] w) : Calls Tryz.prog 320 #[.string s] w (Ret w [] fun v H1 => v = .bool (decide ((s.size : Int) ≤ 200)) ∧ H1 = []) := by
 refine fn_enter (args := [_]) func320 rfl ntmps320 rfl hH (sq (pl (qa rfl (n0 (sq (pn_plain [1] rfl (qm rfl (qq rfl (RD.len_string runUnderlying9 rfl) (qq rfl (RD.leq rfl rfl) ?_)))))))))
 exact qa rfl (n0 (rt (pn_doneS [] rfl rfl ⟨rfl, rfl⟩ (fun _ => Nat.zero_le _) (fun _ he => nomatch he))))
theorem c_known (k : Int) (w : World) (hH : Hp [] w) : Calls Tryz.prog 325 #[.int .i64 k] w (Ret w [] fun v H1 => v = .bool ((decide (1 ≤ k)) && (decide (k ≤ 4))) ∧ H1 = []) := by
 refine fn_enter (args := [_]) func325 rfl ntmps325 rfl hH (sq (pl (qa rfl (n0 (sq (pl (qm rfl (qq rfl (RD.geq rfl rfl) (qm rfl ?_)))))))))
 refine TE_join (σ := Unit) (fun _ => [(2, .bool ((decide (1 ≤ k)) && (decide (k ≤ 4))))]) (fun _ => []) (fun _ => True) ?_ ?_
 ·refine TE_dec (fun hf1 => ?_) (fun hf1 => ?_)
  ·exact qg rfl (TE_gq rfl rfl rfl rfl (RD.leq rfl rfl) rfl (qT rfl (qa rfl (n0 (pn_give () trivial ⟨congrArg (fun b => some (Value.bool b)) (by first | (simp [hf1]; done) | (simp only [decide_eq_true hf1]; rfl) | (simp only [decide_eq_true hf1]; simp; done)), trivial⟩ sb)))))
  ·exact qs rfl (qs rfl (qF rfl (qa rfl (n0 (pn_give () trivial ⟨congrArg (fun b => some (Value.bool b)) (by first | (simp [hf1]; done) | (simp only [decide_eq_false hf1]; rfl) | (simp only [decide_eq_false hf1]; simp; done)), trivial⟩ sb)))))
 rintro _ -
 exact rt (pn_doneS [] rfl rfl ⟨rfl, rfl⟩ (fun _ => Nat.zero_le _) (fun _ he => nomatch he))
theorem c_commitMay (x : Ob) (xd : Value) (xe : Value) (xp : Value) (HX : Mem) (w : World) (hbxd : Rdb HX xd x.data) (hbxe : Rdx 34 (entC) HX xe x.ents) (hbxp : Rdx 32 (idC) HX xp x.pars) (hox : ObOk x) (hH : Hp HX w) : Calls Tryz.prog 318 #[objV x xd xe xp] w (Ret w [] fun v H1 => v = .bool ((parsB x.pars) && (decide ((x.m.size : Int) ≤ 200))) ∧ H1 = []) := by
 have hw1 := hox.d; have hw2 := hox.e; have hw3 := hox.p; have hw4 := hox.m; have hwe := hox.en
 refine fn_enter (args := [_]) func318 rfl ntmps318 rfl hH (sq (pl (TE_boxC (objV x xd xe xp).cells rfl rfl rfl trivial rfl fun b1 hb1 => (qa rfl (n0 (sq (dG [2, 3, 8, 10, 13, 14, 20] [] ((b1, .cells (objV x xd xe xp).cells 267 (0, 0)) :: HX) (qq rfl (RD.fieldAddr (o := 0) runUnderlying267 rfl rfl sizeOf62 rfl) (qq rfl (RD.fieldAddr (o := 35) runUnderlying62 rfl rfl sizeOf41 rfl) ?_)))))))))
 refine qq rfl (RD.load (i := 0) (v := xp) isAgg41 rfl rfl rfl) (qq rfl (RD.lenX runUnderlying41 rfl hbxp) (qq rfl (RD.leq rfl rfl) (qm rfl (TE_join (σ := Unit) (fun _ => [(2, .bool ((decide ((x.pars.length : Int) ≤ 4)) && ((uniqB x.pars) && (decide ((x.m.size : Int) ≤ 200)))))]) (fun _ => ((b1, .cells (objV x xd xe xp).cells 267 (0, 0)) :: HX)) (fun _ => True) ?_ ?_))))
 ·refine TE_dec (fun hf1 => ?_) (fun hf1 => ?_)
  ·refine TE_gq rfl rfl rfl rfl (RD.fieldAddr (o := 0) runUnderlying267 rfl rfl sizeOf62 rfl) rfl (TE_gq rfl rfl rfl rfl (RD.fieldAddr (o := 35) runUnderlying62 rfl rfl sizeOf41 rfl) rfl (TE_gq rfl rfl rfl rfl (RD.load (i := 0) (v := xp) isAgg41 rfl rfl rfl) rfl (cG rfl call35 (fun w hw => c_hashSet HX xp x.pars w hbxp.s hox.pc hox.pk (by omega) hw.s) ?_)))
   rintro v8 H9 ⟨ts2, st4, hset3, hbo5, rfl, rfl⟩ hX6
   have hRD7 := hbo5.rdx (u := 35) idC_len
   refine tsp (bldMx 35 (idC) ts2 st4) (TE_gq rfl rfl rfl rfl (RD.lenX runUnderlying41 rfl hRD7) rfl (TE_gq rfl rfl rfl rfl (RD.fieldAddr (o := 0) runUnderlying267 rfl rfl sizeOf62 rfl) rfl (TE_gq rfl rfl rfl rfl (RD.fieldAddr (o := 35) runUnderlying62 rfl rfl sizeOf41 rfl) rfl (TE_gq rfl rfl rfl rfl (RD.load (i := 0) (v := xp) isAgg41 rfl rfl rfl) rfl (TE_gq rfl rfl rfl rfl (RD.lenX runUnderlying41 rfl hbxp) rfl (TE_gq rfl rfl rfl rfl (RD.as (v := .bool (uniqB x.pars)) (RD.eql rfl rfl) (congrArg Value.bool (setOf_uniq hset3 hox.pc))) rfl (qT rfl (qm rfl (TE_bool (fun hf10 => ?_) (fun hf10 => ?_))))))))))
   ·refine TE_gq rfl rfl rfl rfl (RD.fieldAddr (o := 0) runUnderlying267 rfl rfl sizeOf62 rfl) rfl (TE_gq rfl rfl rfl rfl (RD.fieldAddr (o := 69) runUnderlying62 rfl rfl sizeOf9 rfl) rfl (TE_gq rfl rfl rfl rfl (RD.load (i := 0) (v := .string x.m) isAgg9 rfl rfl rfl) rfl (cG rfl call320 (fun w hw => c_said x.m w (by first | assumption | omega | (simp; done) | (simp; omega)) hw.s) ?_)))
    rintro v11 H12 ⟨rfl, rfl⟩ -
    exact qT rfl (qa rfl (TE_nil (pn_give () trivial ⟨congrArg (fun b => some (Value.bool b)) (by first | (simp [hf1, hf10]; done) | (simp only [decide_eq_true hf1, hf10]; rfl) | (simp only [decide_eq_true hf1, hf10]; simp; done)), trivial⟩ sb)))
   ·exact qs rfl (qs rfl (qs rfl (qs rfl (qF rfl (qa rfl (TE_nil (pn_give () trivial ⟨congrArg (fun b => some (Value.bool b)) (by first | (simp [hf1, hf10]; done) | (simp only [decide_eq_true hf1, hf10]; rfl) | (simp only [decide_eq_true hf1, hf10]; simp; done)), trivial⟩ sb)))))))
  ·refine qs rfl (qs rfl (qs rfl (qs rfl (qs rfl (qs rfl (qs rfl (qs rfl (qs rfl (qs rfl ?_)))))))))
   exact qF rfl (qm rfl (qs rfl (qs rfl (qs rfl (qs rfl (qF rfl (qa rfl (TE_nil (pn_give () trivial ⟨congrArg (fun b => some (Value.bool b)) (by first | (simp [hf1]; done) | (simp only [decide_eq_false hf1]; rfl) | (simp only [decide_eq_false hf1]; simp; done)), trivial⟩ sb)))))))))
 rintro _ -
 exact rt (pn_doneS [] rfl rfl ⟨(congrArg Value.bool cmay_eq), rfl⟩ (fun _ => Nat.zero_le _) (fun _ he => nomatch he))
theorem c_tagMay (x : Ob) (xd : Value) (xe : Value) (xp : Value) (HX : Mem) (w : World) (hbxd : Rdb HX xd x.data) (hbxe : Rdx 34 (entC) HX xe x.ents) (hbxp : Rdx 32 (idC) HX xp x.pars) (hox : ObOk x) (hH : Hp HX w) : Calls Tryz.prog 323 #[objV x xd xe xp] w (Ret w [] fun v H1 => v = .bool (((decide (1 ≤ x.tg.k)) && (decide (x.tg.k ≤ 4))) && (decide ((x.m.size : Int) ≤ 200))) ∧ H1 = []) := by
 have hw1 := hox.d; have hw2 := hox.e; have hw3 := hox.p; have hw4 := hox.m; have hwe := hox.en
 refine fn_enter (args := [_]) func323 rfl ntmps323 rfl hH (sq (pl (TE_boxC (objV x xd xe xp).cells rfl rfl rfl trivial rfl fun b1 hb1 => (qa rfl (n0 (sq (pl (qq rfl (RD.fieldAddr (o := 0) runUnderlying268 rfl rfl sizeOf62 rfl) (qq rfl (RD.fieldAddr (o := 36) runUnderlying62 rfl rfl sizeOf60 rfl) ?_)))))))))
 refine qq rfl (RD.fieldAddr (o := 36) runUnderlying60 rfl rfl sizeOf3 rfl) (ql rfl (RD.load (i := 0) (v := .int .i64 x.tg.k) isAgg3 rfl rfl rfl) (cG rfl call325 (fun w hw => c_known x.tg.k w  hw.s) ?_))
 rintro v1 H2 ⟨rfl, rfl⟩ -
 refine qm rfl (TE_join (σ := Unit) (fun _ => [(2, .bool (((decide (1 ≤ x.tg.k)) && (decide (x.tg.k ≤ 4))) && (decide ((x.m.size : Int) ≤ 200))))]) (fun _ => ((b1, .cells (objV x xd xe xp).cells 268 (0, 0)) :: HX)) (fun _ => True) ?_ ?_)
 ·refine TE_bool (fun hf3 => ?_) (fun hf3 => ?_)
  ·refine TE_gq rfl rfl rfl rfl (RD.fieldAddr (o := 0) runUnderlying268 rfl rfl sizeOf62 rfl) rfl (TE_gq rfl rfl rfl rfl (RD.fieldAddr (o := 69) runUnderlying62 rfl rfl sizeOf9 rfl) rfl (ql rfl (RD.load (i := 0) (v := .string x.m) isAgg9 rfl rfl rfl) (cG rfl call320 (fun w hw => c_said x.m w (by first | assumption | omega | (simp; done) | (simp; omega)) hw.s) ?_)))
   rintro v4 H5 ⟨rfl, rfl⟩ -
   exact qT rfl (qa rfl (n0 (pn_give () trivial ⟨congrArg (fun b => some (Value.bool b)) (by first | (simp [hf3]; done) | (simp only [hf3]; rfl) | (simp only [hf3]; simp; done)), trivial⟩ sb)))
  ·exact qs rfl (qs rfl (qs rfl (qs rfl (qF rfl (qa rfl (n0 (pn_give () trivial ⟨congrArg (fun b => some (Value.bool b)) (by first | (simp [hf3]; done) | (simp only [hf3]; rfl) | (simp only [hf3]; simp; done)), trivial⟩ sb)))))))
 rintro _ -
 exact rt (pn_doneS [] rfl rfl ⟨rfl, rfl⟩ (fun _ => Nat.zero_le _) (fun _ he => nomatch he))
end Go.Proofs.YtcmnmigcalibdaaGreatDoor
