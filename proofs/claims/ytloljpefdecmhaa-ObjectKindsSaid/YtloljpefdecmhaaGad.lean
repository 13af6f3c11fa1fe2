import Derived.Test.YtloljpefdecmhaaGac
namespace Go.Proofs.Ytloljpefdecmhaa
open Go Go.Mv
set_option maxRecDepth 8000
theorem bd_object_blob (x : Ob) (d e p : Value) (w : World) : (Instr.build 60 #[(0, objV x d e p)]).run Try.prog w = .ok (objV x d e p) w := by kernel_rfl

theorem inv_blob_may : InvOk Try.prog 60 "marshes/object.may" 68 := by
  have h : ((Try.t60).methods.find? (·.name == "marshes/object.may")).isSome = true := by kernel_rfl
  exact invOk_of (i := Try.t60) (m := Option.get _ h) (by kernel_rfl) (Option.some_get h).symm (by kernel_rfl) (by kernel_rfl) Try.underlying60 (fun _ h => nomatch h) Try.call68

theorem inv_blob_bare : InvOk Try.prog 60 "marshes/object.bare" 66 := by
  have h : ((Try.t60).methods.find? (·.name == "marshes/object.bare")).isSome = true := by kernel_rfl
  exact invOk_of (i := Try.t60) (m := Option.get _ h) (by kernel_rfl) (Option.some_get h).symm (by kernel_rfl) (by kernel_rfl) Try.underlying60 (fun _ h => nomatch h) Try.call66

theorem inv_blob_links : InvOk Try.prog 60 "marshes/object.links" 67 := by
  have h : ((Try.t60).methods.find? (·.name == "marshes/object.links")).isSome = true := by kernel_rfl
  exact invOk_of (i := Try.t60) (m := Option.get _ h) (by kernel_rfl) (Option.some_get h).symm (by kernel_rfl) (by kernel_rfl) Try.underlying60 (fun _ h => nomatch h) Try.call67

theorem bd_object_tree (x : Ob) (d e p : Value) (w : World) : (Instr.build 61 #[(0, objV x d e p)]).run Try.prog w = .ok (objV x d e p) w := by kernel_rfl

theorem inv_tree_may : InvOk Try.prog 61 "marshes/object.may" 76 := by
  have h : ((Try.t61).methods.find? (·.name == "marshes/object.may")).isSome = true := by kernel_rfl
  exact invOk_of (i := Try.t61) (m := Option.get _ h) (by kernel_rfl) (Option.some_get h).symm (by kernel_rfl) (by kernel_rfl) Try.underlying61 (fun _ h => nomatch h) Try.call76

theorem inv_tree_bare : InvOk Try.prog 61 "marshes/object.bare" 74 := by
  have h : ((Try.t61).methods.find? (·.name == "marshes/object.bare")).isSome = true := by kernel_rfl
  exact invOk_of (i := Try.t61) (m := Option.get _ h) (by kernel_rfl) (Option.some_get h).symm (by kernel_rfl) (by kernel_rfl) Try.underlying61 (fun _ h => nomatch h) Try.call74

theorem inv_tree_links : InvOk Try.prog 61 "marshes/object.links" 75 := by
  have h : ((Try.t61).methods.find? (·.name == "marshes/object.links")).isSome = true := by kernel_rfl
  exact invOk_of (i := Try.t61) (m := Option.get _ h) (by kernel_rfl) (Option.some_get h).symm (by kernel_rfl) (by kernel_rfl) Try.underlying61 (fun _ h => nomatch h) Try.call75

theorem bd_object_commit (x : Ob) (d e p : Value) (w : World) : (Instr.build 62 #[(0, objV x d e p)]).run Try.prog w = .ok (objV x d e p) w := by kernel_rfl

theorem inv_commit_may : InvOk Try.prog 62 "marshes/object.may" 92 := by
  have h : ((Try.t62).methods.find? (·.name == "marshes/object.may")).isSome = true := by kernel_rfl
  exact invOk_of (i := Try.t62) (m := Option.get _ h) (by kernel_rfl) (Option.some_get h).symm (by kernel_rfl) (by kernel_rfl) Try.underlying62 (fun _ h => nomatch h) Try.call92

theorem inv_commit_bare : InvOk Try.prog 62 "marshes/object.bare" 90 := by
  have h : ((Try.t62).methods.find? (·.name == "marshes/object.bare")).isSome = true := by kernel_rfl
  exact invOk_of (i := Try.t62) (m := Option.get _ h) (by kernel_rfl) (Option.some_get h).symm (by kernel_rfl) (by kernel_rfl) Try.underlying62 (fun _ h => nomatch h) Try.call90

theorem inv_commit_links : InvOk Try.prog 62 "marshes/object.links" 91 := by
  have h : ((Try.t62).methods.find? (·.name == "marshes/object.links")).isSome = true := by kernel_rfl
  exact invOk_of (i := Try.t62) (m := Option.get _ h) (by kernel_rfl) (Option.some_get h).symm (by kernel_rfl) (by kernel_rfl) Try.underlying62 (fun _ h => nomatch h) Try.call91

theorem bd_object_tag (x : Ob) (d e p : Value) (w : World) : (Instr.build 63 #[(0, objV x d e p)]).run Try.prog w = .ok (objV x d e p) w := by kernel_rfl

theorem inv_tag_may : InvOk Try.prog 63 "marshes/object.may" 121 := by
  have h : ((Try.t63).methods.find? (·.name == "marshes/object.may")).isSome = true := by kernel_rfl
  exact invOk_of (i := Try.t63) (m := Option.get _ h) (by kernel_rfl) (Option.some_get h).symm (by kernel_rfl) (by kernel_rfl) Try.underlying63 (fun _ h => nomatch h) Try.call121

theorem inv_tag_bare : InvOk Try.prog 63 "marshes/object.bare" 119 := by
  have h : ((Try.t63).methods.find? (·.name == "marshes/object.bare")).isSome = true := by kernel_rfl
  exact invOk_of (i := Try.t63) (m := Option.get _ h) (by kernel_rfl) (Option.some_get h).symm (by kernel_rfl) (by kernel_rfl) Try.underlying63 (fun _ h => nomatch h) Try.call119

theorem inv_tag_links : InvOk Try.prog 63 "marshes/object.links" 120 := by
  have h : ((Try.t63).methods.find? (·.name == "marshes/object.links")).isSome = true := by kernel_rfl
  exact invOk_of (i := Try.t63) (m := Option.get _ h) (by kernel_rfl) (Option.some_get h).symm (by kernel_rfl) (by kernel_rfl) Try.underlying63 (fun _ h => nomatch h) Try.call120

def entsL (l : List Ent) : List Lnk := l.map fun e => ⟨e.k, e.id⟩
def parsL (l : List (Nat → Int)) : List Lnk := l.map fun p => ⟨3, p⟩
@[simp] theorem entsL_nil : entsL [] = [] := rfl
@[simp] theorem parsL_nil : parsL [] = [] := rfl
theorem entsL_next {l : List Ent} {i : Nat} (hi : i < l.length) : entsL (l.take i) ++ [⟨(gt l i).k, (gt l i).id⟩] = entsL (l.take (i + 1)) := by
  rw [take_succ_of (gt_some hi), entsL, entsL, List.map_append]; rfl
theorem parsL_next {y : Lnk} {l : List (Nat → Int)} {i : Nat} (hi : i < l.length) : y :: parsL (l.take i) ++ [⟨3, gt l i⟩] = y :: parsL (l.take (i + 1)) := by
  rw [take_succ_of (gt_some hi), parsL, parsL, List.map_append]; rfl
theorem take_all {α : Type} {l : List α} {i : Nat} (h : l.length ≤ i) : l.take i = l := List.take_of_length_le h
theorem entsL_len (l : List Ent) : (entsL l).length = l.length := by simp [entsL]
theorem parsL_len (l : List (Nat → Int)) : (parsL l).length = l.length := by simp [parsL]
def lastN (l : List Ent) (i : Nat) : ByteArray := if i = 0 then ⟨#[]⟩ else (gt l (i - 1)).name
theorem slt_nil (a : ByteArray) : slt ⟨#[]⟩ a = decide (1 ≤ a.size) := by
  unfold slt
  rw [Lib.toList_data, Lib.toList_data, Lib.size_eq]
  cases a.data.toList with
  | nil => rfl
  | cons c l => rw [decide_eq_true (by simp)]; rfl
theorem lastN_succ {l : List Ent} {i : Nat} : lastN l (i + 1) = (gt l i).name := rfl
theorem ent2 {l : List Ent} (i : Nat) : entAt l i = !(sle (gt l i).name (lastN l i) || (decide (64 < ((gt l i).name.size : Int)) || (hasSep (gt l i).name || (!decide ((gt l i).k = 1) && !decide ((gt l i).k = 2))))) := by
  rw [sle_not]
  have e1 : decide ((gt l i).name.size ≤ 64) = !decide (64 < ((gt l i).name.size : Int)) := by rw [← decide_not]; exact decide_eq_decide.2 (by omega)
  by_cases h : i = 0
  · rw [lastN, if_pos h, slt_nil, entAt, nameB, decide_eq_true h, e1]
    generalize decide (1 ≤ (gt l i).name.size) = a
    generalize decide (64 < ((gt l i).name.size : Int)) = b
    generalize hasSep (gt l i).name = c
    generalize decide ((gt l i).k = 1) = d
    generalize decide ((gt l i).k = 2) = e
    cases a <;> cases b <;> cases c <;> cases d <;> cases e <;> rfl
  · rw [lastN, if_neg h, entAt, nameB, decide_eq_false h, e1]
    have h1 : slt (gt l (i - 1)).name (gt l i).name = true → decide (1 ≤ (gt l i).name.size) = true := fun hs => by
      rw [← slt_nil]
      rcases slt_tri ⟨#[]⟩ (gt l (i - 1)).name with h2 | h2 | h2
      · exact slt_tr h2 hs
      · rw [h2]; exact hs
      · have : slt (gt l (i - 1)).name ⟨#[]⟩ = false := by
          cases hq : slt (gt l (i - 1)).name ⟨#[]⟩ with
          | false => rfl
          | true =>
            unfold slt at hq
            rw [Lib.toList_data, Lib.toList_data] at hq
            cases hw : (gt l (i - 1)).name.data.toList with
            | nil => rw [hw] at hq; exact absurd hq (by decide)
            | cons c r => rw [hw] at hq; exact absurd hq (by show ¬ Op.bytesLess (c :: r) [] = true; simp [Op.bytesLess])
        rw [this] at h2; cases h2
    generalize decide (1 ≤ (gt l i).name.size) = a at h1 ⊢
    generalize decide (64 < ((gt l i).name.size : Int)) = b
    generalize hasSep (gt l i).name = c
    generalize decide ((gt l i).k = 1) = d
    generalize decide ((gt l i).k = 2) = e
    generalize slt (gt l (i - 1)).name (gt l i).name = f at h1 ⊢
    cases a <;> cases b <;> cases c <;> cases d <;> cases e <;> cases f <;> first | rfl | exact absurd (h1 rfl) (by decide)
theorem ent2_F {l : List Ent} {i : Nat} {e : Bool} (h : entAt l i = !e) (hc : e = true) : entAt l i = false := by rw [h, hc]; rfl
theorem ent2_T {l : List Ent} {i : Nat} {e : Bool} (h : entAt l i = !e) (hc : e = false) : entAt l i = true := by rw [h, hc]; rfl

theorem c_blobMay (x : Ob) (xd : Value) (xe : Value) (xp : Value) (HX : Mem) (w : World) (hbxd : Rdb HX xd x.data) (hbxe : Rdx 34 (entC) HX xe x.ents) (hbxp : Rdx 32 (idC) HX xp x.pars) (hox : ObOk x) (hH : Hp HX w) : Calls Try.prog 68 #[objV x xd xe xp] w (Ret w [] fun v H1 => v = .bool (decide ((x.data.length : Int) ≤ 1024)) ∧ H1 = []) := by
  have hw1 := hox.d; have hw2 := hox.e; have hw3 := hox.p; have hw4 := hox.m; have hwe := hox.en
  refine fn_enter (args := [_]) Try.func68 rfl Try.ntmps68 rfl hH ?_
  refine pn_seq ?_
  refine pn_plain [] rfl ?_
  refine TE_boxC (objV x xd xe xp).cells rfl rfl rfl trivial rfl fun b1 hb1 => ?_
  refine TE_q rfl rfl (RD.assign rfl) rfl ?_
  refine TE_nil0 ?_
  refine pn_seq ?_
  refine pn_plain [3] rfl ?_
  refine TE_q rfl rfl (RD.fieldAddr (o := 0) Try.runUnderlying60 rfl rfl Try.sizeOf30 rfl) rfl ?_
  refine TE_q rfl rfl (RD.fieldAddr (o := 1) Try.runUnderlying30 rfl rfl Try.sizeOf22 rfl) rfl ?_
  refine TE_l rfl rfl trivial rfl (RD.load (i := 0) (v := xd) Try.isAgg22 rfl rfl rfl) rfl ?_
  refine TE_q rfl rfl (RD.lenR Try.runUnderlying22 rfl hbxd) rfl ?_
  refine TE_q rfl rfl (RD.leq rfl rfl) rfl ?_
  refine TE_q rfl rfl (RD.assign rfl) rfl ?_
  refine TE_nil0 ?_
  refine pn_ret ?_
  exact pn_doneS [] rfl rfl ⟨rfl, rfl⟩ (fun _ => Nat.zero_le _) (fun _ he => nomatch he)

theorem c_treeMay (x : Ob) (xd : Value) (xe : Value) (xp : Value) (HX : Mem) (w : World) (hbxd : Rdb HX xd x.data) (hbxe : Rdx 34 (entC) HX xe x.ents) (hbxp : Rdx 32 (idC) HX xp x.pars) (hox : ObOk x) (hH : Hp HX w) : Calls Try.prog 76 #[objV x xd xe xp] w (Ret w [] fun v H1 => v = .bool (treeB x.ents) ∧ H1 = []) := by
  have hw1 := hox.d; have hw2 := hox.e; have hw3 := hox.p; have hw4 := hox.m; have hwe := hox.en
  refine fn_enter (args := [_]) Try.func76 rfl Try.ntmps76 rfl hH ?_
  refine pn_seq ?_
  refine pn_plain [] rfl ?_
  refine TE_boxC (objV x xd xe xp).cells rfl rfl rfl trivial rfl fun b1 hb1 => ?_
  refine TE_q rfl rfl (RD.assign rfl) rfl ?_
  refine TE_nil0 ?_
  refine pn_seq ?_
  refine pn_plain [] rfl ?_
  refine TE_q rfl rfl (RD.assign rfl) rfl ?_
  refine TE_nil0 ?_
  refine pn_seq ?_
  refine pn_seq ?_
  refine pn_plain [3] rfl ?_
  refine TE_q rfl rfl (RD.fieldAddr (o := 0) Try.runUnderlying61 rfl rfl Try.sizeOf30 rfl) rfl ?_
  refine TE_q rfl rfl (RD.fieldAddr (o := 2) Try.runUnderlying30 rfl rfl Try.sizeOf23 rfl) rfl ?_
  refine TE_l rfl rfl trivial rfl (RD.load (i := 0) (v := xe) Try.isAgg23 rfl rfl rfl) rfl ?_
  refine TE_q rfl rfl (RD.lenX Try.runUnderlying23 rfl hbxe) rfl ?_
  refine TE_q rfl rfl (RD.move rfl) rfl ?_
  refine TE_nil0 ?_
  refine pn_block ?_
  refine pn_loopS (σ := Nat) (fun q => [(1, .pointer (some ⟨b1, 0, none⟩)), (8, xe), (9, .int .i64 (x.ents.length : Int)), (3, .string (lastN x.ents q)), (10, .int .i64 (q : Int))]) (fun q => ((b1, .cells (objV x xd xe xp).cells 61 (0, 0)) :: HX)) (fun q => (q ≤ x.ents.length) ∧ (∀ j, j < q → entAt x.ents j = true)) (fun q => x.ents.length - q) 0 ⟨(by omega), (fun j hj => absurd hj (Nat.not_lt_zero _))⟩ ⟨rfl, rfl, rfl, rfl, rfl, trivial⟩ (fun a => by simp -failIfUnchanged <;> omega) ?_
  rintro i ⟨hi, hall⟩
  refine pn_seq ?_
  refine pn_plain [] rfl ?_
  refine TE_q rfl rfl (RD.lss rfl rfl) rfl ?_
  refine TE_nil0 ?_
  refine pn_seq ?_
  refine pn_condD rfl (fun hc1 => ?_) (fun hc1 => ?_)
  · refine pn_skip ?_
    refine pn_seq ?_
    refine pn_block ?_
    refine pn_seq ?_
    refine pn_plain [] rfl ?_
    refine TE_q rfl rfl (RD.idxR (i := i) (o := (i * 34 + 0)) Try.runUnderlying23 Try.sizeOf38 rfl hbxe rfl rfl (by omega) (by rfl)) rfl ?_
    refine TE_l rfl rfl trivial rfl (RD.ldRA (i := i) (j := 0) (vs := (entC (gt x.ents i))) Try.isAgg38 Try.sizeOf38 rfl hbxe (gt_some (by omega)) (by rfl) rfl (fun _ _ hu => by rw [Nat.zero_add]; exact hu) (entC_agg _) (fun _ hw => hw.sp (fun a => by simp -failIfUnchanged <;> omega))) rfl ?_
    refine TE_allocC (entV (⟨⟨#[]⟩, 0, (fun _ => 0)⟩ : Ent)).cells rfl Try.zeroValue38 rfl trivial rfl fun b5 hb5 => ?_
    refine TE_putCW 0 (entV (⟨⟨#[]⟩, 0, (fun _ => 0)⟩ : Ent)).cells (entV (gt x.ents i)).cells ((b5, .cells (entV (gt x.ents i)).cells 38 (0, 0)) :: (b1, .cells (objV x xd xe xp).cells 61 (0, 0)) :: HX) rfl Try.sizeOf38 trivial rfl rfl rfl rfl rfl rfl rfl rfl (.inl hb5) ?_
    refine TE_nil0 ?_
    refine pn_seq ?_
    refine pn_seq ?_
    refine pn_plain [7] rfl ?_
    refine TE_q rfl rfl (RD.fieldAddr (o := 0) Try.runUnderlying38 rfl rfl Try.sizeOf9 rfl) rfl ?_
    refine TE_l rfl rfl trivial rfl (RD.load (i := 0) (v := .string ((gt x.ents i).name)) Try.isAgg9 rfl rfl rfl) rfl ?_
    refine TE_q rfl rfl (RD.move rfl) rfl ?_
    refine TE_q rfl rfl (RD.leq_string rfl rfl) rfl ?_
    refine TE_q rfl rfl (RD.move rfl) rfl ?_
    refine TE_join (σ := Unit) (fun _ => [(1, .pointer (some ⟨b1, 0, none⟩)), (5, .pointer (some ⟨b5, 0, none⟩)), (8, xe), (9, .int .i64 (x.ents.length : Int)), (10, .int .i64 (i : Int)), (38, .bool ((sle ((gt x.ents i).name) (lastN x.ents i)) || ((decide (64 < (((gt x.ents i).name).size : Int))) || ((hasSep ((gt x.ents i).name)) || ((!decide (((gt x.ents i).k) = 1)) && (!decide (((gt x.ents i).k) = 2)))))))]) (fun _ => ((b5, .cells (entV (gt x.ents i)).cells 38 (0, 0)) :: (b1, .cells (objV x xd xe xp).cells 61 (0, 0)) :: HX)) (fun _ => True) ?_ ?_
    · refine TE_bool (fun hf2 => ?_) (fun hf2 => ?_)
      · refine TE_s rfl rfl rfl rfl rfl ?_
        refine TE_s rfl rfl rfl rfl rfl ?_
        refine TE_s rfl rfl rfl rfl rfl ?_
        refine TE_s rfl rfl rfl rfl rfl ?_
        refine TE_q rfl rfl (RD.pickT rfl rfl) rfl ?_
        refine TE_q rfl rfl (RD.move rfl) rfl ?_
        refine TE_s rfl rfl rfl rfl rfl ?_
        refine TE_s rfl rfl rfl rfl rfl ?_
        refine TE_s rfl rfl rfl rfl rfl ?_
        refine TE_q rfl rfl (RD.pickT rfl rfl) rfl ?_
        refine TE_q rfl rfl (RD.move rfl) rfl ?_
        refine TE_s rfl rfl rfl rfl rfl ?_
        refine TE_s rfl rfl rfl rfl rfl ?_
        refine TE_s rfl rfl rfl rfl rfl ?_
        refine TE_s rfl rfl rfl rfl rfl ?_
        refine TE_su rfl rfl rfl rfl ?_
        refine TE_su rfl rfl rfl rfl ?_
        refine TE_su rfl rfl rfl rfl ?_
        refine TE_s rfl rfl rfl rfl rfl ?_
        refine TE_q rfl rfl (RD.pickT rfl rfl) rfl ?_
        refine TE_nil0 ?_
        exact pn_give () trivial ⟨rfl, rfl, rfl, rfl, rfl, congrArg (fun b => some (Value.bool b)) (by first | (simp [hf2]; done) | (simp only [hf2]; rfl)), trivial⟩ (fun _ hw => hw.sp (fun a => by simp -failIfUnchanged <;> omega))
      · refine TE_gq rfl rfl rfl rfl (RD.fieldAddr (o := 0) Try.runUnderlying38 rfl rfl Try.sizeOf9 rfl) rfl ?_
        refine TE_l rfl rfl ⟨_, rfl, rfl⟩ rfl (RD.load (i := 0) (v := .string ((gt x.ents i).name)) Try.isAgg9 rfl rfl rfl) rfl ?_
        refine TE_gq rfl rfl rfl rfl (RD.len_string Try.runUnderlying9 rfl) rfl ?_
        refine TE_gq rfl rfl rfl rfl (RD.gtr rfl rfl) rfl ?_
        refine TE_q rfl rfl (RD.pickF rfl rfl) rfl ?_
        refine TE_q rfl rfl (RD.move rfl) rfl ?_
        refine TE_dec (fun hf3 => ?_) (fun hf3 => ?_)
        · refine TE_s rfl rfl rfl rfl rfl ?_
          refine TE_s rfl rfl rfl rfl rfl ?_
          refine TE_s rfl rfl rfl rfl rfl ?_
          refine TE_q rfl rfl (RD.pickT rfl rfl) rfl ?_
          refine TE_q rfl rfl (RD.move rfl) rfl ?_
          refine TE_s rfl rfl rfl rfl rfl ?_
          refine TE_s rfl rfl rfl rfl rfl ?_
          refine TE_s rfl rfl rfl rfl rfl ?_
          refine TE_s rfl rfl rfl rfl rfl ?_
          refine TE_su rfl rfl rfl rfl ?_
          refine TE_su rfl rfl rfl rfl ?_
          refine TE_su rfl rfl rfl rfl ?_
          refine TE_s rfl rfl rfl rfl rfl ?_
          refine TE_q rfl rfl (RD.pickT rfl rfl) rfl ?_
          refine TE_nil0 ?_
          exact pn_give () trivial ⟨rfl, rfl, rfl, rfl, rfl, congrArg (fun b => some (Value.bool b)) (by first | (simp [hf2, hf3]; done) | (simp only [hf2, decide_eq_true hf3]; rfl)), trivial⟩ (fun _ hw => hw.sp (fun a => by simp -failIfUnchanged <;> omega))
        · refine TE_gq rfl rfl rfl rfl (RD.fieldAddr (o := 0) Try.runUnderlying38 rfl rfl Try.sizeOf9 rfl) rfl ?_
          refine TE_l rfl rfl ⟨_, rfl, rfl⟩ rfl (RD.load (i := 0) (v := .string ((gt x.ents i).name)) Try.isAgg9 rfl rfl rfl) rfl ?_
          refine TE_callG _ [] rfl rfl ⟨_, rfl, rfl⟩ Try.call78 rfl rfl rfl (fun w hw => c_hasSep ((gt x.ents i).name) w (Nat.le_trans (hwe _ (gt_mem (by omega))).n (by decide)) (hw.sp (fun a => by simp -failIfUnchanged <;> omega))) (fun a => by simp -failIfUnchanged <;> omega) ?_
          rintro v4 H5 ⟨rfl, rfl⟩ -
          refine TE_q rfl rfl (RD.pickF rfl rfl) rfl ?_
          refine TE_q rfl rfl (RD.move rfl) rfl ?_
          refine TE_bool (fun hf6 => ?_) (fun hf6 => ?_)
          · refine TE_s rfl rfl rfl rfl rfl ?_
            refine TE_s rfl rfl rfl rfl rfl ?_
            refine TE_s rfl rfl rfl rfl rfl ?_
            refine TE_s rfl rfl rfl rfl rfl ?_
            refine TE_su rfl rfl rfl rfl ?_
            refine TE_su rfl rfl rfl rfl ?_
            refine TE_su rfl rfl rfl rfl ?_
            refine TE_s rfl rfl rfl rfl rfl ?_
            refine TE_q rfl rfl (RD.pickT rfl rfl) rfl ?_
            refine TE_nil0 ?_
            exact pn_give () trivial ⟨rfl, rfl, rfl, rfl, rfl, congrArg (fun b => some (Value.bool b)) (by first | (simp [hf2, hf3, hf6]; done) | (simp only [hf2, decide_eq_false hf3, hf6]; rfl)), trivial⟩ (fun _ hw => hw.sp (fun a => by simp -failIfUnchanged <;> omega))
          · refine TE_gq rfl rfl rfl rfl (RD.fieldAddr (o := 1) Try.runUnderlying38 rfl rfl Try.sizeOf3 rfl) rfl ?_
            refine TE_l rfl rfl ⟨_, rfl, rfl⟩ rfl (RD.load (i := 0) (v := .int .i64 ((gt x.ents i).k)) Try.isAgg3 rfl rfl rfl) rfl ?_
            refine TE_gq rfl rfl rfl rfl (RD.neq rfl rfl) rfl ?_
            refine TE_gq rfl rfl rfl rfl (RD.move rfl) rfl ?_
            refine TE_ndec (fun hf7 => ?_) (fun hf7 => ?_)
            · refine TE_gq rfl rfl rfl rfl (RD.fieldAddr (o := 1) Try.runUnderlying38 rfl rfl Try.sizeOf3 rfl) rfl ?_
              refine TE_l rfl rfl ⟨_, rfl, rfl⟩ rfl (RD.load (i := 0) (v := .int .i64 ((gt x.ents i).k)) Try.isAgg3 rfl rfl rfl) rfl ?_
              refine TE_gq rfl rfl rfl rfl (RD.neq rfl rfl) rfl ?_
              refine TE_gq rfl rfl rfl rfl (RD.pickT rfl rfl) rfl ?_
              refine TE_q rfl rfl (RD.pickF rfl rfl) rfl ?_
              refine TE_nil0 ?_
              exact pn_give () trivial ⟨rfl, rfl, rfl, rfl, rfl, congrArg (fun b => some (Value.bool b)) (by first | (simp [hf2, hf3, hf6, hf7]; done) | (simp only [hf2, decide_eq_false hf3, hf6, decide_eq_false hf7]; rfl)), trivial⟩ (fun _ hw => hw.sp (fun a => by simp -failIfUnchanged <;> omega))
            · refine TE_s rfl rfl rfl rfl rfl ?_
              refine TE_s rfl rfl rfl rfl rfl ?_
              refine TE_s rfl rfl rfl rfl rfl ?_
              refine TE_gq rfl rfl rfl rfl (RD.pickF rfl rfl) rfl ?_
              refine TE_q rfl rfl (RD.pickF rfl rfl) rfl ?_
              refine TE_nil0 ?_
              exact pn_give () trivial ⟨rfl, rfl, rfl, rfl, rfl, congrArg (fun b => some (Value.bool b)) (by first | (simp [hf2, hf3, hf6, hf7]; done) | (simp only [hf2, decide_eq_false hf3, hf6, decide_eq_true hf7]; rfl)), trivial⟩ (fun _ hw => hw.sp (fun a => by simp -failIfUnchanged <;> omega))
    rintro _ -
    refine pn_cond rfl (fun hc8 => ?_) (fun hc8 => ?_)
    · refine pn_seq ?_
      refine pn_plainG [] [] rfl (fun a => by simp -failIfUnchanged <;> omega) ?_
      refine TE_q rfl rfl (RD.assign rfl) rfl ?_
      refine TE_nil0 ?_
      refine pn_ret ?_
      exact pn_doneS [] rfl rfl ⟨(congrArg Value.bool (tree_F2 (i := i) (by omega) (ent2_F (ent2 i) hc8)).symm), rfl⟩ (fun _ => Nat.zero_le _) (fun _ he => nomatch he)
    · refine pn_skip ?_
      refine pn_plain [] rfl ?_
      refine TE_q rfl rfl (RD.fieldAddr (o := 0) Try.runUnderlying38 rfl rfl Try.sizeOf9 rfl) rfl ?_
      refine TE_l rfl rfl trivial rfl (RD.load (i := 0) (v := .string ((gt x.ents i).name)) Try.isAgg9 rfl rfl rfl) rfl ?_
      refine TE_q rfl rfl (RD.assign rfl) rfl ?_
      refine TE_nil0 ?_
      refine pn_plainG [] ((b1, .cells (objV x xd xe xp).cells 61 (0, 0)) :: HX) rfl (fun a => by simp -failIfUnchanged <;> omega) ?_
      refine TE_q rfl rfl (RD.addI rfl rfl (by omega) (by omega)) rfl ?_
      refine TE_q rfl rfl (RD.move rfl) rfl ?_
      refine TE_nil0 ?_
      have he9 : (gt x.ents i).name = (lastN x.ents (i + 1)) := lastN_succ.symm
      exact pn_againS (i + 1) ⟨(by omega), (fun j hj => (by rcases Nat.lt_or_ge j i with h | h; exact hall j h; obtain rfl : j = i := (by omega); exact ent2_T (ent2 j) hc8))⟩ (by omega) ⟨rfl, rfl, rfl, (congrArg (fun z => some (Value.string z)) he9), rfl, trivial⟩ (fun a => by simp -failIfUnchanged <;> omega)
  · refine pn_exit ?_
    refine pn_seq ?_
    refine pn_plain [3] rfl ?_
    refine TE_q rfl rfl (RD.fieldAddr (o := 0) Try.runUnderlying61 rfl rfl Try.sizeOf30 rfl) rfl ?_
    refine TE_q rfl rfl (RD.fieldAddr (o := 2) Try.runUnderlying30 rfl rfl Try.sizeOf23 rfl) rfl ?_
    refine TE_l rfl rfl trivial rfl (RD.load (i := 0) (v := xe) Try.isAgg23 rfl rfl rfl) rfl ?_
    refine TE_q rfl rfl (RD.lenX Try.runUnderlying23 rfl hbxe) rfl ?_
    refine TE_q rfl rfl (RD.leq rfl rfl) rfl ?_
    refine TE_q rfl rfl (RD.assign rfl) rfl ?_
    refine TE_nil0 ?_
    refine pn_ret ?_
    exact pn_doneS [] rfl rfl ⟨(congrArg Value.bool ((tree_T fun j hj => hall j (by omega)).trans (decide_eq_decide.2 (by omega))).symm), rfl⟩ (fun _ => Nat.zero_le _) (fun _ he => nomatch he)

theorem nodup_le {α : Type} [DecidableEq α] : ∀ {xs l : List α}, xs.Nodup → (∀ x ∈ xs, x ∈ l) → xs.length ≤ l.length
  | [], _, _, _ => Nat.zero_le _
  | x :: xs, l, h, hs => by
    rw [List.nodup_cons] at h
    have hx := hs x List.mem_cons_self
    have h1 := nodup_le (l := l.erase x) h.2 (fun y hy => (List.mem_erase_of_ne (fun he => h.1 (by rw [← he]; exact hy))).2 (hs y (List.mem_cons_of_mem _ hy)))
    rw [List.length_erase_of_mem hx] at h1
    have := List.length_pos_of_mem hx
    simp only [List.length_cons]; omega
theorem setOf_le {l xs : List (Nat → Int)} (h : SetOf l xs) : xs.length ≤ l.length := by
  have : DecidableEq (Nat → Int) := fun a b => Classical.propDecidable (a = b)
  exact nodup_le (srt_nodup h.1) fun x hx => (h.2 x).1 hx
theorem setOf_uniq {l ts : List (Nat → Int)} (h : SetOf l ts) (hc : ∀ p ∈ l, IdCan p) : decide ((ts.length : Int) = (l.length : Int)) = uniqB l := by
  have hnd : ts.Nodup := srt_nodup h.1
  have hsub : ∀ {l : List (Nat → Int)}, (∀ p ∈ l, IdCan p) → (uniqB l = true ↔ l.Nodup) := fun {l} hc => by
    constructor
    · intro hu
      rw [List.nodup_iff_pairwise_ne, List.pairwise_iff_getElem]
      intro i j hi hj hij he
      have h1 := uniq_at hu hj hij
      have e1 := gt_some hi; have e2 := gt_some hj
      rw [List.getElem?_eq_getElem hi] at e1
      rw [List.getElem?_eq_getElem hj] at e2
      rw [← Option.some.inj e1, ← Option.some.inj e2, he, sameN_self] at h1
      cases h1
    · intro hn
      refine uniq_T fun i k hi hk => ?_
      cases hs : sameN 32 (gt l i) (gt l k) with
      | false => rfl
      | true =>
        have hk' : k < l.length := by omega
        have e : gt l i = gt l k := eq_of_can (hc _ (gt_mem hi)) (hc _ (gt_mem hk')) (idCmp_zero.2 (sameN_iff.1 hs))
        rw [List.nodup_iff_pairwise_ne, List.pairwise_iff_getElem] at hn
        have e1 := gt_some hi; have e2 := gt_some hk'
        rw [List.getElem?_eq_getElem hi] at e1
        rw [List.getElem?_eq_getElem hk'] at e2
        exact absurd ((Option.some.inj e2).trans (e.symm.trans (Option.some.inj e1).symm)) (hn k i hk' hi hk)
  rw [Bool.eq_iff_iff, decide_eq_true_eq, hsub hc]
  constructor
  · intro he
    rw [List.nodup_iff_pairwise_ne, List.pairwise_iff_getElem]
    intro i j hi hj hij heq
    have h2 : SetOf (l.eraseIdx j) ts := h.congr fun x => by
      rw [List.mem_eraseIdx_iff_getElem?]
      constructor
      · intro hx
        obtain ⟨k, hk, rfl⟩ := List.getElem_of_mem hx
        by_cases hkj : k = j
        · subst hkj; exact ⟨i, by omega, by rw [List.getElem?_eq_getElem hi, heq]⟩
        · exact ⟨k, hkj, List.getElem?_eq_getElem hk⟩
      · rintro ⟨k, _, hk⟩
        exact List.mem_of_getElem? hk
    have := setOf_le h2
    rw [List.length_eraseIdx_of_lt hj] at this
    omega
  · intro hn
    have hp : ts.Perm l := (List.perm_ext_iff_of_nodup hnd hn).2 h.2
    rw [hp.length_eq]

theorem cmay_eq {x : Ob} {b : Bool} : (decide ((x.pars.length : Int) ≤ 4) && (uniqB x.pars && b)) = (parsB x.pars && b) := by
  rw [parsB, Bool.and_assoc]
  congr 1
  exact decide_eq_decide.2 (by omega)

theorem c_said (s : ByteArray) (w : World) (hs : s.size ≤ 1000000) (hH : Hp [] w) : Calls Try.prog 95 #[.string s] w (Ret w [] fun v H1 => v = .bool (decide ((s.size : Int) ≤ 200)) ∧ H1 = []) := by
  refine fn_enter (args := [_]) Try.func95 rfl Try.ntmps95 rfl hH ?_
  refine pn_seq ?_
  refine pn_plain [] rfl ?_
  refine TE_q rfl rfl (RD.assign rfl) rfl ?_
  refine TE_nil0 ?_
  refine pn_seq ?_
  refine pn_plain [1] rfl ?_
  refine TE_q rfl rfl (RD.move rfl) rfl ?_
  refine TE_q rfl rfl (RD.len_string Try.runUnderlying9 rfl) rfl ?_
  refine TE_q rfl rfl (RD.leq rfl rfl) rfl ?_
  refine TE_q rfl rfl (RD.assign rfl) rfl ?_
  refine TE_nil0 ?_
  refine pn_ret ?_
  exact pn_doneS [] rfl rfl ⟨rfl, rfl⟩ (fun _ => Nat.zero_le _) (fun _ he => nomatch he)

theorem c_known (k : Int) (w : World) (hH : Hp [] w) : Calls Try.prog 123 #[.int .i64 k] w (Ret w [] fun v H1 => v = .bool ((decide (1 ≤ k)) && (decide (k ≤ 4))) ∧ H1 = []) := by
  refine fn_enter (args := [_]) Try.func123 rfl Try.ntmps123 rfl hH ?_
  refine pn_seq ?_
  refine pn_plain [] rfl ?_
  refine TE_q rfl rfl (RD.assign rfl) rfl ?_
  refine TE_nil0 ?_
  refine pn_seq ?_
  refine pn_plain [] rfl ?_
  refine TE_q rfl rfl (RD.move rfl) rfl ?_
  refine TE_q rfl rfl (RD.geq rfl rfl) rfl ?_
  refine TE_q rfl rfl (RD.move rfl) rfl ?_
  refine TE_join (σ := Unit) (fun _ => [(2, .bool ((decide (1 ≤ k)) && (decide (k ≤ 4))))]) (fun _ => []) (fun _ => True) ?_ ?_
  · refine TE_dec (fun hf1 => ?_) (fun hf1 => ?_)
    · refine TE_gq rfl rfl rfl rfl (RD.move rfl) rfl ?_
      refine TE_gq rfl rfl rfl rfl (RD.leq rfl rfl) rfl ?_
      refine TE_q rfl rfl (RD.pickT rfl rfl) rfl ?_
      refine TE_q rfl rfl (RD.assign rfl) rfl ?_
      refine TE_nil0 ?_
      exact pn_give () trivial ⟨congrArg (fun b => some (Value.bool b)) (by first | (simp [hf1]; done) | (simp only [decide_eq_true hf1]; rfl)), trivial⟩ (fun _ hw => hw.sp (fun a => by simp -failIfUnchanged <;> omega))
    · refine TE_s rfl rfl rfl rfl rfl ?_
      refine TE_s rfl rfl rfl rfl rfl ?_
      refine TE_q rfl rfl (RD.pickF rfl rfl) rfl ?_
      refine TE_q rfl rfl (RD.assign rfl) rfl ?_
      refine TE_nil0 ?_
      exact pn_give () trivial ⟨congrArg (fun b => some (Value.bool b)) (by first | (simp [hf1]; done) | (simp only [decide_eq_false hf1]; rfl)), trivial⟩ (fun _ hw => hw.sp (fun a => by simp -failIfUnchanged <;> omega))
  rintro _ -
  refine pn_ret ?_
  exact pn_doneS [] rfl rfl ⟨rfl, rfl⟩ (fun _ => Nat.zero_le _) (fun _ he => nomatch he)

theorem c_commitMay (x : Ob) (xd : Value) (xe : Value) (xp : Value) (HX : Mem) (w : World) (hbxd : Rdb HX xd x.data) (hbxe : Rdx 34 (entC) HX xe x.ents) (hbxp : Rdx 32 (idC) HX xp x.pars) (hox : ObOk x) (hH : Hp HX w) : Calls Try.prog 92 #[objV x xd xe xp] w (Ret w [] fun v H1 => v = .bool ((parsB x.pars) && (decide ((x.m.size : Int) ≤ 200))) ∧ H1 = []) := by
  have hw1 := hox.d; have hw2 := hox.e; have hw3 := hox.p; have hw4 := hox.m; have hwe := hox.en
  refine fn_enter (args := [_]) Try.func92 rfl Try.ntmps92 rfl hH ?_
  refine pn_seq ?_
  refine pn_plain [] rfl ?_
  refine TE_boxC (objV x xd xe xp).cells rfl rfl rfl trivial rfl fun b1 hb1 => ?_
  refine TE_q rfl rfl (RD.assign rfl) rfl ?_
  refine TE_nil0 ?_
  refine pn_seq ?_
  refine pn_drawG [2, 3, 8, 10, 13, 14, 20] [] ((b1, .cells (objV x xd xe xp).cells 62 (0, 0)) :: HX) rfl rfl (by kernel_rfl) (fun a => by simp -failIfUnchanged <;> omega) ?_
  refine TE_q rfl rfl (RD.fieldAddr (o := 0) Try.runUnderlying62 rfl rfl Try.sizeOf30 rfl) rfl ?_
  refine TE_q rfl rfl (RD.fieldAddr (o := 35) Try.runUnderlying30 rfl rfl Try.sizeOf26 rfl) rfl ?_
  refine TE_q rfl rfl (RD.load (i := 0) (v := xp) Try.isAgg26 rfl rfl rfl) rfl ?_
  refine TE_q rfl rfl (RD.lenX Try.runUnderlying26 rfl hbxp) rfl ?_
  refine TE_q rfl rfl (RD.leq rfl rfl) rfl ?_
  refine TE_q rfl rfl (RD.move rfl) rfl ?_
  refine TE_join (σ := Unit) (fun _ => [(2, .bool ((decide ((x.pars.length : Int) ≤ 4)) && ((uniqB x.pars) && (decide ((x.m.size : Int) ≤ 200)))))]) (fun _ => ((b1, .cells (objV x xd xe xp).cells 62 (0, 0)) :: HX)) (fun _ => True) ?_ ?_
  · refine TE_dec (fun hf1 => ?_) (fun hf1 => ?_)
    · refine TE_gq rfl rfl rfl rfl (RD.fieldAddr (o := 0) Try.runUnderlying62 rfl rfl Try.sizeOf30 rfl) rfl ?_
      refine TE_gq rfl rfl rfl rfl (RD.fieldAddr (o := 35) Try.runUnderlying30 rfl rfl Try.sizeOf26 rfl) rfl ?_
      refine TE_gq rfl rfl rfl rfl (RD.load (i := 0) (v := xp) Try.isAgg26 rfl rfl rfl) rfl ?_
      refine TE_callG _ HX rfl rfl ⟨_, rfl, rfl⟩ Try.call94 rfl rfl rfl (fun w hw => c_hashSet HX xp x.pars w (hbxp.mono (fun _ hw => hw.sp (fun a => by simp -failIfUnchanged <;> omega))) hox.pc hox.pk (by omega) (hw.sp (fun a => by simp -failIfUnchanged <;> omega))) (fun a => by simp -failIfUnchanged <;> omega) ?_
      rintro v8 H9 ⟨ts2, st4, hset3, hbo5, rfl, rfl⟩ hX6
      have hRD7 : Rdx 32 (idC) (bldMx 25 (idC) ts2 st4) (bldVx ts2 st4) ts2 := hbo5.rdx (u := 25) idC_len
      refine TE_sp (bldMx 25 (idC) ts2 st4) (fun a => by simp -failIfUnchanged <;> omega) ?_
      refine TE_gq rfl rfl rfl rfl (RD.lenX Try.runUnderlying26 rfl hRD7) rfl ?_
      refine TE_gq rfl rfl rfl rfl (RD.fieldAddr (o := 0) Try.runUnderlying62 rfl rfl Try.sizeOf30 rfl) rfl ?_
      refine TE_gq rfl rfl rfl rfl (RD.fieldAddr (o := 35) Try.runUnderlying30 rfl rfl Try.sizeOf26 rfl) rfl ?_
      refine TE_gq rfl rfl rfl rfl (RD.load (i := 0) (v := xp) Try.isAgg26 rfl rfl rfl) rfl ?_
      refine TE_gq rfl rfl rfl rfl (RD.lenX Try.runUnderlying26 rfl hbxp) rfl ?_
      refine TE_gq rfl rfl rfl rfl (RD.as (v := .bool (uniqB x.pars)) (RD.eql rfl rfl) (congrArg Value.bool (setOf_uniq hset3 hox.pc))) rfl ?_
      refine TE_q rfl rfl (RD.pickT rfl rfl) rfl ?_
      refine TE_q rfl rfl (RD.move rfl) rfl ?_
      refine TE_bool (fun hf10 => ?_) (fun hf10 => ?_)
      · refine TE_gq rfl rfl rfl rfl (RD.fieldAddr (o := 0) Try.runUnderlying62 rfl rfl Try.sizeOf30 rfl) rfl ?_
        refine TE_gq rfl rfl rfl rfl (RD.fieldAddr (o := 69) Try.runUnderlying30 rfl rfl Try.sizeOf9 rfl) rfl ?_
        refine TE_gq rfl rfl rfl rfl (RD.load (i := 0) (v := .string x.m) Try.isAgg9 rfl rfl rfl) rfl ?_
        refine TE_callG _ [] rfl rfl ⟨_, rfl, rfl⟩ Try.call95 rfl rfl rfl (fun w hw => c_said x.m w (by first | assumption | omega | (simp; done) | (simp; omega)) (hw.sp (fun a => by simp -failIfUnchanged <;> omega))) (fun a => by simp -failIfUnchanged <;> omega) ?_
        rintro v11 H12 ⟨rfl, rfl⟩ -
        refine TE_q rfl rfl (RD.pickT rfl rfl) rfl ?_
        refine TE_q rfl rfl (RD.assign rfl) rfl ?_
        refine TE_nil ?_
        exact pn_give () trivial ⟨congrArg (fun b => some (Value.bool b)) (by first | (simp [hf1, hf10]; done) | (simp only [decide_eq_true hf1, hf10]; rfl)), trivial⟩ (fun _ hw => hw.sp (fun a => by simp -failIfUnchanged <;> omega))
      · refine TE_s rfl rfl rfl rfl rfl ?_
        refine TE_s rfl rfl rfl rfl rfl ?_
        refine TE_s rfl rfl rfl rfl rfl ?_
        refine TE_s rfl rfl rfl rfl rfl ?_
        refine TE_q rfl rfl (RD.pickF rfl rfl) rfl ?_
        refine TE_q rfl rfl (RD.assign rfl) rfl ?_
        refine TE_nil ?_
        exact pn_give () trivial ⟨congrArg (fun b => some (Value.bool b)) (by first | (simp [hf1, hf10]; done) | (simp only [decide_eq_true hf1, hf10]; rfl)), trivial⟩ (fun _ hw => hw.sp (fun a => by simp -failIfUnchanged <;> omega))
    · refine TE_s rfl rfl rfl rfl rfl ?_
      refine TE_s rfl rfl rfl rfl rfl ?_
      refine TE_s rfl rfl rfl rfl rfl ?_
      refine TE_s rfl rfl rfl rfl rfl ?_
      refine TE_s rfl rfl rfl rfl rfl ?_
      refine TE_s rfl rfl rfl rfl rfl ?_
      refine TE_s rfl rfl rfl rfl rfl ?_
      refine TE_s rfl rfl rfl rfl rfl ?_
      refine TE_s rfl rfl rfl rfl rfl ?_
      refine TE_s rfl rfl rfl rfl rfl ?_
      refine TE_q rfl rfl (RD.pickF rfl rfl) rfl ?_
      refine TE_q rfl rfl (RD.move rfl) rfl ?_
      refine TE_s rfl rfl rfl rfl rfl ?_
      refine TE_s rfl rfl rfl rfl rfl ?_
      refine TE_s rfl rfl rfl rfl rfl ?_
      refine TE_s rfl rfl rfl rfl rfl ?_
      refine TE_q rfl rfl (RD.pickF rfl rfl) rfl ?_
      refine TE_q rfl rfl (RD.assign rfl) rfl ?_
      refine TE_nil ?_
      exact pn_give () trivial ⟨congrArg (fun b => some (Value.bool b)) (by first | (simp [hf1]; done) | (simp only [decide_eq_false hf1]; rfl)), trivial⟩ (fun _ hw => hw.sp (fun a => by simp -failIfUnchanged <;> omega))
  rintro _ -
  refine pn_ret ?_
  exact pn_doneS [] rfl rfl ⟨(congrArg Value.bool cmay_eq), rfl⟩ (fun _ => Nat.zero_le _) (fun _ he => nomatch he)

theorem c_tagMay (x : Ob) (xd : Value) (xe : Value) (xp : Value) (HX : Mem) (w : World) (hbxd : Rdb HX xd x.data) (hbxe : Rdx 34 (entC) HX xe x.ents) (hbxp : Rdx 32 (idC) HX xp x.pars) (hox : ObOk x) (hH : Hp HX w) : Calls Try.prog 121 #[objV x xd xe xp] w (Ret w [] fun v H1 => v = .bool (((decide (1 ≤ x.tg.k)) && (decide (x.tg.k ≤ 4))) && (decide ((x.m.size : Int) ≤ 200))) ∧ H1 = []) := by
  have hw1 := hox.d; have hw2 := hox.e; have hw3 := hox.p; have hw4 := hox.m; have hwe := hox.en
  refine fn_enter (args := [_]) Try.func121 rfl Try.ntmps121 rfl hH ?_
  refine pn_seq ?_
  refine pn_plain [] rfl ?_
  refine TE_boxC (objV x xd xe xp).cells rfl rfl rfl trivial rfl fun b1 hb1 => ?_
  refine TE_q rfl rfl (RD.assign rfl) rfl ?_
  refine TE_nil0 ?_
  refine pn_seq ?_
  refine pn_plain [] rfl ?_
  refine TE_q rfl rfl (RD.fieldAddr (o := 0) Try.runUnderlying63 rfl rfl Try.sizeOf30 rfl) rfl ?_
  refine TE_q rfl rfl (RD.fieldAddr (o := 36) Try.runUnderlying30 rfl rfl Try.sizeOf28 rfl) rfl ?_
  refine TE_q rfl rfl (RD.fieldAddr (o := 36) Try.runUnderlying28 rfl rfl Try.sizeOf3 rfl) rfl ?_
  refine TE_l rfl rfl trivial rfl (RD.load (i := 0) (v := .int .i64 x.tg.k) Try.isAgg3 rfl rfl rfl) rfl ?_
  refine TE_callG _ [] rfl rfl trivial Try.call123 rfl rfl rfl (fun w hw => c_known x.tg.k w  (hw.sp (fun a => by simp -failIfUnchanged <;> omega))) (fun a => by simp -failIfUnchanged <;> omega) ?_
  rintro v1 H2 ⟨rfl, rfl⟩ -
  refine TE_q rfl rfl (RD.move rfl) rfl ?_
  refine TE_join (σ := Unit) (fun _ => [(2, .bool (((decide (1 ≤ x.tg.k)) && (decide (x.tg.k ≤ 4))) && (decide ((x.m.size : Int) ≤ 200))))]) (fun _ => ((b1, .cells (objV x xd xe xp).cells 63 (0, 0)) :: HX)) (fun _ => True) ?_ ?_
  · refine TE_bool (fun hf3 => ?_) (fun hf3 => ?_)
    · refine TE_gq rfl rfl rfl rfl (RD.fieldAddr (o := 0) Try.runUnderlying63 rfl rfl Try.sizeOf30 rfl) rfl ?_
      refine TE_gq rfl rfl rfl rfl (RD.fieldAddr (o := 69) Try.runUnderlying30 rfl rfl Try.sizeOf9 rfl) rfl ?_
      refine TE_l rfl rfl ⟨_, rfl, rfl⟩ rfl (RD.load (i := 0) (v := .string x.m) Try.isAgg9 rfl rfl rfl) rfl ?_
      refine TE_callG _ [] rfl rfl ⟨_, rfl, rfl⟩ Try.call95 rfl rfl rfl (fun w hw => c_said x.m w (by first | assumption | omega | (simp; done) | (simp; omega)) (hw.sp (fun a => by simp -failIfUnchanged <;> omega))) (fun a => by simp -failIfUnchanged <;> omega) ?_
      rintro v4 H5 ⟨rfl, rfl⟩ -
      refine TE_q rfl rfl (RD.pickT rfl rfl) rfl ?_
      refine TE_q rfl rfl (RD.assign rfl) rfl ?_
      refine TE_nil0 ?_
      exact pn_give () trivial ⟨congrArg (fun b => some (Value.bool b)) (by first | (simp [hf3]; done) | (simp only [hf3]; rfl)), trivial⟩ (fun _ hw => hw.sp (fun a => by simp -failIfUnchanged <;> omega))
    · refine TE_s rfl rfl rfl rfl rfl ?_
      refine TE_s rfl rfl rfl rfl rfl ?_
      refine TE_s rfl rfl rfl rfl rfl ?_
      refine TE_s rfl rfl rfl rfl rfl ?_
      refine TE_q rfl rfl (RD.pickF rfl rfl) rfl ?_
      refine TE_q rfl rfl (RD.assign rfl) rfl ?_
      refine TE_nil0 ?_
      exact pn_give () trivial ⟨congrArg (fun b => some (Value.bool b)) (by first | (simp [hf3]; done) | (simp only [hf3]; rfl)), trivial⟩ (fun _ hw => hw.sp (fun a => by simp -failIfUnchanged <;> omega))
  rintro _ -
  refine pn_ret ?_
  exact pn_doneS [] rfl rfl ⟨rfl, rfl⟩ (fun _ => Nat.zero_le _) (fun _ he => nomatch he)

end Go.Proofs.Ytloljpefdecmhaa

namespace Go.Proofs.Ytloljpefdecmhaa
open Go Go.Mv
set_option maxRecDepth 8000
theorem c_blobBare (x : Ob) (xd : Value) (xe : Value) (xp : Value) (HX : Mem) (w : World) (hbxd : Rdb HX xd x.data) (hbxe : Rdx 34 (entC) HX xe x.ents) (hbxp : Rdx 32 (idC) HX xp x.pars) (hox : ObOk x) (hH : Hp HX w) : Calls Try.prog 66 #[objV x xd xe xp] w (Ret w [] fun v H1 => v = objV (⟨x.k, x.data, [], (fun _ => 0), [], (⟨0, (fun _ => 0)⟩ : Lnk), ⟨#[]⟩⟩ : Ob) xd (.slice none 0 0) (.slice none 0 0) ∧ H1 = []) := by
  refine fn_enter (args := [_]) Try.func66 rfl Try.ntmps66 rfl hH ?_
  refine pn_seq ?_
  refine pn_plain [] rfl ?_
  refine TE_boxC (objV x xd xe xp).cells rfl rfl rfl trivial rfl fun b1 hb1 => ?_
  refine TE_allocC (objV (⟨0, [], [], (fun _ => 0), [], (⟨0, (fun _ => 0)⟩ : Lnk), ⟨#[]⟩⟩ : Ob) (.slice none 0 0) (.slice none 0 0) (.slice none 0 0)).cells rfl Try.zeroValue30 rfl trivial rfl fun b2 hb2 => ?_
  refine TE_nil0 ?_
  refine pn_seq ?_
  refine pn_plain [] rfl ?_
  refine TE_q rfl rfl (RD.fieldAddr (o := 0) Try.runUnderlying60 rfl rfl Try.sizeOf30 rfl) rfl ?_
  refine TE_q rfl rfl (RD.fieldAddr (o := 0) Try.runUnderlying30 rfl rfl Try.sizeOf3 rfl) rfl ?_
  refine TE_l rfl rfl trivial rfl (RD.load (i := 1) (v := .int .i64 x.k) Try.isAgg3 rfl rfl rfl) rfl ?_
  refine TE_q rfl rfl (RD.fieldAddr (o := 0) Try.runUnderlying60 rfl rfl Try.sizeOf30 rfl) rfl ?_
  refine TE_q rfl rfl (RD.fieldAddr (o := 1) Try.runUnderlying30 rfl rfl Try.sizeOf22 rfl) rfl ?_
  refine TE_l rfl rfl trivial rfl (RD.load (i := 1) (v := xd) Try.isAgg22 rfl rfl rfl) rfl ?_
  refine TE_q rfl rfl (RD.build (v := objV (⟨x.k, x.data, [], (fun _ => 0), [], (⟨0, (fun _ => 0)⟩ : Lnk), ⟨#[]⟩⟩ : Ob) xd (.slice none 0 0) (.slice none 0 0)) rfl (fun w => by obtain ⟨a0, c0, e0⟩ := (hbxd).shape; rw [e0]; kernel_rfl)) rfl ?_
  refine TE_putCW 0 (objV (⟨0, [], [], (fun _ => 0), [], (⟨0, (fun _ => 0)⟩ : Lnk), ⟨#[]⟩⟩ : Ob) (.slice none 0 0) (.slice none 0 0) (.slice none 0 0)).cells (objV (⟨x.k, x.data, [], (fun _ => 0), [], (⟨0, (fun _ => 0)⟩ : Lnk), ⟨#[]⟩⟩ : Ob) xd (.slice none 0 0) (.slice none 0 0)).cells ((b2, .cells (objV (⟨x.k, x.data, [], (fun _ => 0), [], (⟨0, (fun _ => 0)⟩ : Lnk), ⟨#[]⟩⟩ : Ob) xd (.slice none 0 0) (.slice none 0 0)).cells 30 (0, 0)) :: (b1, .cells (objV x xd xe xp).cells 60 (0, 0)) :: HX) rfl Try.sizeOf30 trivial rfl rfl rfl (objV_one _ _ _ _ (by obtain ⟨a, c, e⟩ := (hbxd).shape; rw [e]; rfl) rfl rfl) rfl rfl rfl rfl (.inl hb2) ?_
  refine TE_nil0 ?_
  refine pn_ret ?_
  exact pn_doneF rfl ⟨objV (⟨x.k, x.data, [], (fun _ => 0), [], (⟨0, (fun _ => 0)⟩ : Lnk), ⟨#[]⟩⟩ : Ob) xd (.slice none 0 0) (.slice none 0 0), _, b2, 0, rfl, rfl, load_agg (i := 0) Try.isAgg30 Try.sizeOf30 rfl (Nat.le_of_ble_eq_true rfl) (obj_all _ _ _ _), rfl⟩ ⟨rfl, rfl⟩ (fun _ h => h.sp (fun _ => Nat.zero_le _)) (fun _ he => nomatch he)

theorem c_treeBare (x : Ob) (xd : Value) (xe : Value) (xp : Value) (HX : Mem) (w : World) (hbxd : Rdb HX xd x.data) (hbxe : Rdx 34 (entC) HX xe x.ents) (hbxp : Rdx 32 (idC) HX xp x.pars) (hox : ObOk x) (hH : Hp HX w) : Calls Try.prog 74 #[objV x xd xe xp] w (Ret w [] fun v H1 => v = objV (⟨x.k, [], x.ents, (fun _ => 0), [], (⟨0, (fun _ => 0)⟩ : Lnk), ⟨#[]⟩⟩ : Ob) (.slice none 0 0) xe (.slice none 0 0) ∧ H1 = []) := by
  refine fn_enter (args := [_]) Try.func74 rfl Try.ntmps74 rfl hH ?_
  refine pn_seq ?_
  refine pn_plain [] rfl ?_
  refine TE_boxC (objV x xd xe xp).cells rfl rfl rfl trivial rfl fun b1 hb1 => ?_
  refine TE_allocC (objV (⟨0, [], [], (fun _ => 0), [], (⟨0, (fun _ => 0)⟩ : Lnk), ⟨#[]⟩⟩ : Ob) (.slice none 0 0) (.slice none 0 0) (.slice none 0 0)).cells rfl Try.zeroValue30 rfl trivial rfl fun b2 hb2 => ?_
  refine TE_nil0 ?_
  refine pn_seq ?_
  refine pn_plain [] rfl ?_
  refine TE_q rfl rfl (RD.fieldAddr (o := 0) Try.runUnderlying61 rfl rfl Try.sizeOf30 rfl) rfl ?_
  refine TE_q rfl rfl (RD.fieldAddr (o := 0) Try.runUnderlying30 rfl rfl Try.sizeOf3 rfl) rfl ?_
  refine TE_l rfl rfl trivial rfl (RD.load (i := 1) (v := .int .i64 x.k) Try.isAgg3 rfl rfl rfl) rfl ?_
  refine TE_q rfl rfl (RD.fieldAddr (o := 0) Try.runUnderlying61 rfl rfl Try.sizeOf30 rfl) rfl ?_
  refine TE_q rfl rfl (RD.fieldAddr (o := 2) Try.runUnderlying30 rfl rfl Try.sizeOf23 rfl) rfl ?_
  refine TE_l rfl rfl trivial rfl (RD.load (i := 1) (v := xe) Try.isAgg23 rfl rfl rfl) rfl ?_
  refine TE_q rfl rfl (RD.build (v := objV (⟨x.k, [], x.ents, (fun _ => 0), [], (⟨0, (fun _ => 0)⟩ : Lnk), ⟨#[]⟩⟩ : Ob) (.slice none 0 0) xe (.slice none 0 0)) rfl (fun w => by obtain ⟨a0, c0, e0⟩ := (hbxe).shape; rw [e0]; kernel_rfl)) rfl ?_
  refine TE_putCW 0 (objV (⟨0, [], [], (fun _ => 0), [], (⟨0, (fun _ => 0)⟩ : Lnk), ⟨#[]⟩⟩ : Ob) (.slice none 0 0) (.slice none 0 0) (.slice none 0 0)).cells (objV (⟨x.k, [], x.ents, (fun _ => 0), [], (⟨0, (fun _ => 0)⟩ : Lnk), ⟨#[]⟩⟩ : Ob) (.slice none 0 0) xe (.slice none 0 0)).cells ((b2, .cells (objV (⟨x.k, [], x.ents, (fun _ => 0), [], (⟨0, (fun _ => 0)⟩ : Lnk), ⟨#[]⟩⟩ : Ob) (.slice none 0 0) xe (.slice none 0 0)).cells 30 (0, 0)) :: (b1, .cells (objV x xd xe xp).cells 61 (0, 0)) :: HX) rfl Try.sizeOf30 trivial rfl rfl rfl (objV_one _ _ _ _ rfl (by obtain ⟨a, c, e⟩ := (hbxe).shape; rw [e]; rfl) rfl) rfl rfl rfl rfl (.inl hb2) ?_
  refine TE_nil0 ?_
  refine pn_ret ?_
  exact pn_doneF rfl ⟨objV (⟨x.k, [], x.ents, (fun _ => 0), [], (⟨0, (fun _ => 0)⟩ : Lnk), ⟨#[]⟩⟩ : Ob) (.slice none 0 0) xe (.slice none 0 0), _, b2, 0, rfl, rfl, load_agg (i := 0) Try.isAgg30 Try.sizeOf30 rfl (Nat.le_of_ble_eq_true rfl) (obj_all _ _ _ _), rfl⟩ ⟨rfl, rfl⟩ (fun _ h => h.sp (fun _ => Nat.zero_le _)) (fun _ he => nomatch he)

theorem c_commitBare (x : Ob) (xd : Value) (xe : Value) (xp : Value) (HX : Mem) (w : World) (hbxd : Rdb HX xd x.data) (hbxe : Rdx 34 (entC) HX xe x.ents) (hbxp : Rdx 32 (idC) HX xp x.pars) (hox : ObOk x) (hH : Hp HX w) : Calls Try.prog 90 #[objV x xd xe xp] w (Ret w [] fun v H1 => v = objV (⟨x.k, [], [], x.t, x.pars, (⟨0, (fun _ => 0)⟩ : Lnk), x.m⟩ : Ob) (.slice none 0 0) (.slice none 0 0) xp ∧ H1 = []) := by
  refine fn_enter (args := [_]) Try.func90 rfl Try.ntmps90 rfl hH ?_
  refine pn_seq ?_
  refine pn_plain [] rfl ?_
  refine TE_boxC (objV x xd xe xp).cells rfl rfl rfl trivial rfl fun b1 hb1 => ?_
  refine TE_allocC (objV (⟨0, [], [], (fun _ => 0), [], (⟨0, (fun _ => 0)⟩ : Lnk), ⟨#[]⟩⟩ : Ob) (.slice none 0 0) (.slice none 0 0) (.slice none 0 0)).cells rfl Try.zeroValue30 rfl trivial rfl fun b2 hb2 => ?_
  refine TE_nil0 ?_
  refine pn_seq ?_
  refine pn_plain [] rfl ?_
  refine TE_q rfl rfl (RD.fieldAddr (o := 0) Try.runUnderlying62 rfl rfl Try.sizeOf30 rfl) rfl ?_
  refine TE_q rfl rfl (RD.fieldAddr (o := 0) Try.runUnderlying30 rfl rfl Try.sizeOf3 rfl) rfl ?_
  refine TE_l rfl rfl trivial rfl (RD.load (i := 1) (v := .int .i64 x.k) Try.isAgg3 rfl rfl rfl) rfl ?_
  refine TE_q rfl rfl (RD.fieldAddr (o := 0) Try.runUnderlying62 rfl rfl Try.sizeOf30 rfl) rfl ?_
  refine TE_q rfl rfl (RD.fieldAddr (o := 3) Try.runUnderlying30 rfl rfl Try.sizeOf25 rfl) rfl ?_
  refine TE_l rfl rfl trivial rfl (RD.loadA (i := 1) (v := idV x.t) Try.isAgg25 Try.sizeOf25 rfl rfl (Nat.le_of_ble_eq_true rfl) (obj_t _ _ _ _)) rfl ?_
  refine TE_q rfl rfl (RD.fieldAddr (o := 0) Try.runUnderlying62 rfl rfl Try.sizeOf30 rfl) rfl ?_
  refine TE_q rfl rfl (RD.fieldAddr (o := 35) Try.runUnderlying30 rfl rfl Try.sizeOf26 rfl) rfl ?_
  refine TE_l rfl rfl trivial rfl (RD.load (i := 1) (v := xp) Try.isAgg26 rfl rfl rfl) rfl ?_
  refine TE_q rfl rfl (RD.fieldAddr (o := 0) Try.runUnderlying62 rfl rfl Try.sizeOf30 rfl) rfl ?_
  refine TE_q rfl rfl (RD.fieldAddr (o := 69) Try.runUnderlying30 rfl rfl Try.sizeOf9 rfl) rfl ?_
  refine TE_l rfl rfl trivial rfl (RD.load (i := 1) (v := .string x.m) Try.isAgg9 rfl rfl rfl) rfl ?_
  refine TE_q rfl rfl (RD.build (v := objV (⟨x.k, [], [], x.t, x.pars, (⟨0, (fun _ => 0)⟩ : Lnk), x.m⟩ : Ob) (.slice none 0 0) (.slice none 0 0) xp) rfl (fun w => by obtain ⟨a0, c0, e0⟩ := (hbxp).shape; rw [e0]; kernel_rfl)) rfl ?_
  refine TE_putCW 0 (objV (⟨0, [], [], (fun _ => 0), [], (⟨0, (fun _ => 0)⟩ : Lnk), ⟨#[]⟩⟩ : Ob) (.slice none 0 0) (.slice none 0 0) (.slice none 0 0)).cells (objV (⟨x.k, [], [], x.t, x.pars, (⟨0, (fun _ => 0)⟩ : Lnk), x.m⟩ : Ob) (.slice none 0 0) (.slice none 0 0) xp).cells ((b2, .cells (objV (⟨x.k, [], [], x.t, x.pars, (⟨0, (fun _ => 0)⟩ : Lnk), x.m⟩ : Ob) (.slice none 0 0) (.slice none 0 0) xp).cells 30 (0, 0)) :: (b1, .cells (objV x xd xe xp).cells 62 (0, 0)) :: HX) rfl Try.sizeOf30 trivial rfl rfl rfl (objV_one _ _ _ _ rfl rfl (by obtain ⟨a, c, e⟩ := (hbxp).shape; rw [e]; rfl)) rfl rfl rfl rfl (.inl hb2) ?_
  refine TE_nil0 ?_
  refine pn_ret ?_
  exact pn_doneF rfl ⟨objV (⟨x.k, [], [], x.t, x.pars, (⟨0, (fun _ => 0)⟩ : Lnk), x.m⟩ : Ob) (.slice none 0 0) (.slice none 0 0) xp, _, b2, 0, rfl, rfl, load_agg (i := 0) Try.isAgg30 Try.sizeOf30 rfl (Nat.le_of_ble_eq_true rfl) (obj_all _ _ _ _), rfl⟩ ⟨rfl, rfl⟩ (fun _ h => h.sp (fun _ => Nat.zero_le _)) (fun _ he => nomatch he)

theorem c_tagBare (x : Ob) (xd : Value) (xe : Value) (xp : Value) (HX : Mem) (w : World) (hbxd : Rdb HX xd x.data) (hbxe : Rdx 34 (entC) HX xe x.ents) (hbxp : Rdx 32 (idC) HX xp x.pars) (hox : ObOk x) (hH : Hp HX w) : Calls Try.prog 119 #[objV x xd xe xp] w (Ret w [] fun v H1 => v = objV (⟨x.k, [], [], (fun _ => 0), [], x.tg, x.m⟩ : Ob) (.slice none 0 0) (.slice none 0 0) (.slice none 0 0) ∧ H1 = []) := by
  refine fn_enter (args := [_]) Try.func119 rfl Try.ntmps119 rfl hH ?_
  refine pn_seq ?_
  refine pn_plain [] rfl ?_
  refine TE_boxC (objV x xd xe xp).cells rfl rfl rfl trivial rfl fun b1 hb1 => ?_
  refine TE_allocC (objV (⟨0, [], [], (fun _ => 0), [], (⟨0, (fun _ => 0)⟩ : Lnk), ⟨#[]⟩⟩ : Ob) (.slice none 0 0) (.slice none 0 0) (.slice none 0 0)).cells rfl Try.zeroValue30 rfl trivial rfl fun b2 hb2 => ?_
  refine TE_nil0 ?_
  refine pn_seq ?_
  refine pn_plain [] rfl ?_
  refine TE_q rfl rfl (RD.fieldAddr (o := 0) Try.runUnderlying63 rfl rfl Try.sizeOf30 rfl) rfl ?_
  refine TE_q rfl rfl (RD.fieldAddr (o := 0) Try.runUnderlying30 rfl rfl Try.sizeOf3 rfl) rfl ?_
  refine TE_l rfl rfl trivial rfl (RD.load (i := 1) (v := .int .i64 x.k) Try.isAgg3 rfl rfl rfl) rfl ?_
  refine TE_q rfl rfl (RD.fieldAddr (o := 0) Try.runUnderlying63 rfl rfl Try.sizeOf30 rfl) rfl ?_
  refine TE_q rfl rfl (RD.fieldAddr (o := 36) Try.runUnderlying30 rfl rfl Try.sizeOf28 rfl) rfl ?_
  refine TE_l rfl rfl trivial rfl (RD.loadA (i := 1) (v := lnkV x.tg) Try.isAgg28 Try.sizeOf28 rfl rfl (Nat.le_of_ble_eq_true rfl) (obj_tg _ _ _ _)) rfl ?_
  refine TE_q rfl rfl (RD.fieldAddr (o := 0) Try.runUnderlying63 rfl rfl Try.sizeOf30 rfl) rfl ?_
  refine TE_q rfl rfl (RD.fieldAddr (o := 69) Try.runUnderlying30 rfl rfl Try.sizeOf9 rfl) rfl ?_
  refine TE_l rfl rfl trivial rfl (RD.load (i := 1) (v := .string x.m) Try.isAgg9 rfl rfl rfl) rfl ?_
  refine TE_q rfl rfl (RD.build (v := objV (⟨x.k, [], [], (fun _ => 0), [], x.tg, x.m⟩ : Ob) (.slice none 0 0) (.slice none 0 0) (.slice none 0 0)) rfl (fun w => by kernel_rfl)) rfl ?_
  refine TE_putCW 0 (objV (⟨0, [], [], (fun _ => 0), [], (⟨0, (fun _ => 0)⟩ : Lnk), ⟨#[]⟩⟩ : Ob) (.slice none 0 0) (.slice none 0 0) (.slice none 0 0)).cells (objV (⟨x.k, [], [], (fun _ => 0), [], x.tg, x.m⟩ : Ob) (.slice none 0 0) (.slice none 0 0) (.slice none 0 0)).cells ((b2, .cells (objV (⟨x.k, [], [], (fun _ => 0), [], x.tg, x.m⟩ : Ob) (.slice none 0 0) (.slice none 0 0) (.slice none 0 0)).cells 30 (0, 0)) :: (b1, .cells (objV x xd xe xp).cells 63 (0, 0)) :: HX) rfl Try.sizeOf30 trivial rfl rfl rfl (objV_one _ _ _ _ rfl rfl rfl) rfl rfl rfl rfl (.inl hb2) ?_
  refine TE_nil0 ?_
  refine pn_ret ?_
  exact pn_doneF rfl ⟨objV (⟨x.k, [], [], (fun _ => 0), [], x.tg, x.m⟩ : Ob) (.slice none 0 0) (.slice none 0 0) (.slice none 0 0), _, b2, 0, rfl, rfl, load_agg (i := 0) Try.isAgg30 Try.sizeOf30 rfl (Nat.le_of_ble_eq_true rfl) (obj_all _ _ _ _), rfl⟩ ⟨rfl, rfl⟩ (fun _ h => h.sp (fun _ => Nat.zero_le _)) (fun _ he => nomatch he)

theorem c_blobLinks (x : Ob) (xd : Value) (xe : Value) (xp : Value) (HX : Mem) (w : World) (hbxd : Rdb HX xd x.data) (hbxe : Rdx 34 (entC) HX xe x.ents) (hbxp : Rdx 32 (idC) HX xp x.pars) (hox : ObOk x) (hH : Hp HX w) : Calls Try.prog 67 #[objV x xd xe xp] w (Ret w [] fun v H1 => ∃ st, BldOk 33 (lnkC) ([] : List Lnk) st ∧ v = bldVx ([] : List Lnk) st ∧ H1 = bldMx 28 (lnkC) ([] : List Lnk) st) := by
  refine fn_enter (args := [_]) Try.func67 rfl Try.ntmps67 rfl hH ?_
  refine pn_seq ?_
  refine pn_plain [] rfl ?_
  refine TE_boxC (objV x xd xe xp).cells rfl rfl rfl trivial rfl fun b1 hb1 => ?_
  refine TE_q rfl rfl (RD.assign rfl) rfl ?_
  refine TE_nil0 ?_
  refine pn_seq ?_
  refine pn_plainG [] [] rfl (fun a => by simp -failIfUnchanged <;> omega) ?_
  refine TE_q rfl rfl (RD.assign rfl) rfl ?_
  refine TE_nil0 ?_
  refine pn_ret ?_
  exact pn_doneS [] rfl rfl ⟨none, BldOk.nil, rfl, rfl⟩ (fun _ => Nat.zero_le _) (fun _ he => nomatch he)

theorem c_treeLinks (x : Ob) (xd : Value) (xe : Value) (xp : Value) (HX : Mem) (w : World) (hbxd : Rdb HX xd x.data) (hbxe : Rdx 34 (entC) HX xe x.ents) (hbxp : Rdx 32 (idC) HX xp x.pars) (hox : ObOk x) (hH : Hp HX w) : Calls Try.prog 75 #[objV x xd xe xp] w (Ret w [] fun v H1 => ∃ st, BldOk 33 (lnkC) (entsL x.ents) st ∧ v = bldVx (entsL x.ents) st ∧ H1 = bldMx 28 (lnkC) (entsL x.ents) st) := by
  have hw1 := hox.d; have hw2 := hox.e; have hw3 := hox.p; have hw4 := hox.m; have hwe := hox.en
  refine fn_enter (args := [_]) Try.func75 rfl Try.ntmps75 rfl hH ?_
  refine pn_seq ?_
  refine pn_plain [] rfl ?_
  refine TE_boxC (objV x xd xe xp).cells rfl rfl rfl trivial rfl fun b1 hb1 => ?_
  refine TE_q rfl rfl (RD.assign rfl) rfl ?_
  refine TE_nil0 ?_
  refine pn_seq ?_
  refine pn_plain [] rfl ?_
  refine TE_q rfl rfl (RD.assign rfl) rfl ?_
  refine TE_nil0 ?_
  refine pn_seq ?_
  refine pn_seq ?_
  refine pn_plain [3] rfl ?_
  refine TE_q rfl rfl (RD.fieldAddr (o := 0) Try.runUnderlying61 rfl rfl Try.sizeOf30 rfl) rfl ?_
  refine TE_q rfl rfl (RD.fieldAddr (o := 2) Try.runUnderlying30 rfl rfl Try.sizeOf23 rfl) rfl ?_
  refine TE_l rfl rfl trivial rfl (RD.load (i := 0) (v := xe) Try.isAgg23 rfl rfl rfl) rfl ?_
  refine TE_q rfl rfl (RD.lenX Try.runUnderlying23 rfl hbxe) rfl ?_
  refine TE_q rfl rfl (RD.move rfl) rfl ?_
  refine TE_nil0 ?_
  refine pn_block ?_
  refine pn_loopS (σ := Nat × SnkS) (fun q => [(8, xe), (9, .int .i64 (x.ents.length : Int)), (3, bldVx (entsL (x.ents.take q.1)) q.2), (10, .int .i64 (q.1 : Int))]) (fun q => ((bldMx 28 (lnkC) (entsL (x.ents.take q.1)) q.2) ++ HX)) (fun q => (q.1 ≤ x.ents.length) ∧ (BldOk 33 (lnkC) (entsL (x.ents.take q.1)) q.2) ∧ (∀ e ∈ bldMx 28 (lnkC) (entsL (x.ents.take q.1)) q.2, w.heap.size ≤ e.1 ∨ e.1 ∈ [])) (fun q => x.ents.length - q.1) (0, none) ⟨(by omega), BldOk.nil, (by intro e he; cases he)⟩ ⟨rfl, rfl, rfl, rfl, trivial⟩ (fun a => by simp -failIfUnchanged <;> omega) ?_
  rintro ⟨i, st⟩ ⟨hi, hbost, hXst⟩
  dsimp only at hi hbost hXst ⊢
  have hRst : Rdx 33 (lnkC) (bldMx 28 (lnkC) (entsL (x.ents.take i)) st) (bldVx (entsL (x.ents.take i)) st) (entsL (x.ents.take i)) := hbost.rdx (u := 28) lnkC_len
  have hln := entsL_len (x.ents.take i)
  rw [List.length_take] at hln
  refine pn_seq ?_
  refine pn_plain [] rfl ?_
  refine TE_q rfl rfl (RD.lss rfl rfl) rfl ?_
  refine TE_nil0 ?_
  refine pn_seq ?_
  refine pn_condD rfl (fun hc1 => ?_) (fun hc1 => ?_)
  · refine pn_skip ?_
    refine pn_seq ?_
    refine pn_block ?_
    refine pn_seq ?_
    refine pn_plain [] rfl ?_
    refine TE_q rfl rfl (RD.idxR (i := i) (o := (i * 34 + 0)) Try.runUnderlying23 Try.sizeOf38 rfl hbxe rfl rfl (by omega) (by rfl)) rfl ?_
    refine TE_l rfl rfl trivial rfl (RD.ldRA (i := i) (j := 0) (vs := (entC (gt x.ents i))) Try.isAgg38 Try.sizeOf38 rfl hbxe (gt_some (by omega)) (by rfl) rfl (fun _ _ hu => by rw [Nat.zero_add]; exact hu) (entC_agg _) (fun _ hw => hw.sp (fun a => by simp -failIfUnchanged <;> omega))) rfl ?_
    refine TE_allocC (entV (⟨⟨#[]⟩, 0, (fun _ => 0)⟩ : Ent)).cells rfl Try.zeroValue38 rfl trivial rfl fun b5 hb5 => ?_
    refine TE_putCW 0 (entV (⟨⟨#[]⟩, 0, (fun _ => 0)⟩ : Ent)).cells (entV (gt x.ents i)).cells ((b5, .cells (entV (gt x.ents i)).cells 38 (0, 0)) :: ((bldMx 28 (lnkC) (entsL (x.ents.take i)) st) ++ HX)) rfl Try.sizeOf38 trivial rfl rfl rfl rfl rfl rfl rfl rfl (.inl hb5) ?_
    refine TE_nil0 ?_
    refine pn_plain [] rfl ?_
    refine TE_q rfl rfl (RD.move rfl) rfl ?_
    refine TE_q rfl rfl (RD.fieldAddr (o := 1) Try.runUnderlying38 rfl rfl Try.sizeOf3 rfl) rfl ?_
    refine TE_l rfl rfl trivial rfl (RD.load (i := 0) (v := .int .i64 ((gt x.ents i).k)) Try.isAgg3 rfl rfl rfl) rfl ?_
    refine TE_q rfl rfl (RD.fieldAddr (o := 2) Try.runUnderlying38 rfl rfl Try.sizeOf25 rfl) rfl ?_
    refine TE_l rfl rfl trivial rfl (RD.loadA (i := 0) (v := idV ((gt x.ents i).id)) Try.isAgg25 Try.sizeOf25 rfl rfl (Nat.le_of_ble_eq_true rfl) (ent_id _)) rfl ?_
    refine TE_q rfl rfl (RD.build (v := lnkV (⟨(gt x.ents i).k, (gt x.ents i).id⟩ : Lnk)) rfl (fun w => by simp [Instr.build, Try.zeroValue28, Try.runUnderlying28, Try.sizeOf25, Try.sizeOf3, Value.cells, Instr.fill, lnkV, idV])) rfl ?_
    refine TE_buildSlice (cells := (cat lnkC [(⟨(gt x.ents i).k, (gt x.ents i).id⟩ : Lnk)] ++ []).toArray) rfl Try.runUnderlying33 Try.sizeOf28 Try.zeroValue28 rfl rfl rfl (by kernel_rfl) trivial rfl fun b20 hb20 => ?_
    refine TE_sp ((bldMx 28 (lnkC) (entsL (x.ents.take i)) st) ++ ((b20, .cells (cat lnkC [(⟨(gt x.ents i).k, (gt x.ents i).id⟩ : Lnk)] ++ []).toArray 28 (0, 0)) :: (b5, .cells (entV (gt x.ents i)).cells 38 (0, 0)) :: HX)) (fun a => by simp -failIfUnchanged <;> omega) ?_
    refine TE_appendX (st := st) (l := (entsL (x.ents.take i))) (ys := [(⟨(gt x.ents i).k, (gt x.ents i).id⟩ : Lnk)]) ((b20, .cells (cat lnkC [(⟨(gt x.ents i).k, (gt x.ents i).id⟩ : Lnk)] ++ []).toArray 28 (0, 0)) :: (b5, .cells (entV (gt x.ents i)).cells 38 (0, 0)) :: HX) lnkC_len lnkC_one rfl rfl rfl rfl trivial rfl Try.underlying33 el_lnk rfl rfl rfl hbost (Rdx.blk (enc := lnkC) (H := [(b20, .cells (cat lnkC [(⟨(gt x.ents i).k, (gt x.ents i).id⟩ : Lnk)] ++ []).toArray 28 (0, 0))]) (xs := [(⟨(gt x.ents i).k, (gt x.ents i).id⟩ : Lnk)]) (n := 1) (i := 0) (tl := []) (c := 1) lnkC_len rfl rfl (Nat.le_refl _)) (fun _ hw => hw.sp (fun a => by simp -failIfUnchanged <;> omega)) (by simp; omega) rfl hXst ?_
    intro st2 hbo3 hX4 _
    have hR6 : Rdx 33 (lnkC) (bldMx 28 (lnkC) ((entsL (x.ents.take i)) ++ [(⟨(gt x.ents i).k, (gt x.ents i).id⟩ : Lnk)]) st2) (bldVx ((entsL (x.ents.take i)) ++ [(⟨(gt x.ents i).k, (gt x.ents i).id⟩ : Lnk)]) st2) ((entsL (x.ents.take i)) ++ [(⟨(gt x.ents i).k, (gt x.ents i).id⟩ : Lnk)]) := hbo3.rdx (u := 28) lnkC_len
    refine TE_sp ((b20, .cells (cat lnkC [(⟨(gt x.ents i).k, (gt x.ents i).id⟩ : Lnk)] ++ []).toArray 28 (0, 0)) :: (b5, .cells (entV (gt x.ents i)).cells 38 (0, 0)) :: ((bldMx 28 (lnkC) ((entsL (x.ents.take i)) ++ [(⟨(gt x.ents i).k, (gt x.ents i).id⟩ : Lnk)]) st2) ++ HX)) (fun a => by simp -failIfUnchanged <;> omega) ?_
    refine TE_q rfl rfl (RD.assign rfl) rfl ?_
    refine TE_nil0 ?_
    refine pn_plainG [] ((bldMx 28 (lnkC) ((entsL (x.ents.take i)) ++ [(⟨(gt x.ents i).k, (gt x.ents i).id⟩ : Lnk)]) st2) ++ HX) rfl (fun a => by simp -failIfUnchanged <;> omega) ?_
    refine TE_q rfl rfl (RD.addI rfl rfl (by omega) (by omega)) rfl ?_
    refine TE_q rfl rfl (RD.move rfl) rfl ?_
    refine TE_nil0 ?_
    have he7 : ((entsL (x.ents.take i)) ++ [(⟨(gt x.ents i).k, (gt x.ents i).id⟩ : Lnk)]) = (entsL (x.ents.take (i + 1))) := (entsL_next (by omega))
    exact pn_againS ((i + 1), st2) ⟨(by omega), (by rw [← he7]; exact hbo3), (by rw [← he7]; exact hX4)⟩ (by dsimp only; omega) ⟨rfl, rfl, (congrArg (fun l => some (bldVx l st2)) he7), rfl, trivial⟩ (fun a => by (try simp only [← he7]); simp -failIfUnchanged <;> omega)
  · refine pn_exit ?_
    refine pn_seq ?_
    refine pn_plainG [] (bldMx 28 (lnkC) (entsL (x.ents.take i)) st) rfl (fun a => by simp -failIfUnchanged <;> omega) ?_
    refine TE_q rfl rfl (RD.move rfl) rfl ?_
    refine TE_q rfl rfl (RD.assign rfl) rfl ?_
    refine TE_nil0 ?_
    refine pn_ret ?_
    have he8 : (entsL (x.ents.take i)) = entsL x.ents := (congrArg entsL (take_all (by omega)))
    exact pn_doneS (bldMx 28 (lnkC) (entsL (x.ents.take i)) st) rfl rfl ⟨st, (by rw [← he8]; exact hbost), (by rw [← he8]; rfl), (by rw [← he8])⟩ (fun a => by simp -failIfUnchanged <;> omega) hXst

theorem c_commitLinks (x : Ob) (xd : Value) (xe : Value) (xp : Value) (HX : Mem) (w : World) (hbxd : Rdb HX xd x.data) (hbxe : Rdx 34 (entC) HX xe x.ents) (hbxp : Rdx 32 (idC) HX xp x.pars) (hox : ObOk x) (hH : Hp HX w) : Calls Try.prog 91 #[objV x xd xe xp] w (Ret w [] fun v H1 => ∃ st, BldOk 33 (lnkC) ((⟨2, x.t⟩ : Lnk) :: parsL x.pars) st ∧ v = bldVx ((⟨2, x.t⟩ : Lnk) :: parsL x.pars) st ∧ H1 = bldMx 28 (lnkC) ((⟨2, x.t⟩ : Lnk) :: parsL x.pars) st) := by
  have hw1 := hox.d; have hw2 := hox.e; have hw3 := hox.p; have hw4 := hox.m; have hwe := hox.en
  refine fn_enter (args := [_]) Try.func91 rfl Try.ntmps91 rfl hH ?_
  refine pn_seq ?_
  refine pn_plain [] rfl ?_
  refine TE_boxC (objV x xd xe xp).cells rfl rfl rfl trivial rfl fun b1 hb1 => ?_
  refine TE_q rfl rfl (RD.assign rfl) rfl ?_
  refine TE_nil0 ?_
  refine pn_seq ?_
  refine pn_plain [] rfl ?_
  refine TE_q rfl rfl (RD.fieldAddr (o := 0) Try.runUnderlying62 rfl rfl Try.sizeOf30 rfl) rfl ?_
  refine TE_q rfl rfl (RD.fieldAddr (o := 3) Try.runUnderlying30 rfl rfl Try.sizeOf25 rfl) rfl ?_
  refine TE_l rfl rfl trivial rfl (RD.loadA (i := 0) (v := idV x.t) Try.isAgg25 Try.sizeOf25 rfl rfl (Nat.le_of_ble_eq_true rfl) (obj_t _ _ _ _)) rfl ?_
  refine TE_q rfl rfl (RD.build (v := lnkV (⟨2, x.t⟩ : Lnk)) rfl (fun w => by simp [Instr.build, Try.zeroValue28, Try.runUnderlying28, Try.sizeOf25, Try.sizeOf3, Value.cells, Instr.fill, lnkV, idV])) rfl ?_
  refine TE_buildSlice (cells := (cat lnkC [(⟨2, x.t⟩ : Lnk)] ++ []).toArray) rfl Try.runUnderlying33 Try.sizeOf28 Try.zeroValue28 rfl rfl rfl (by kernel_rfl) trivial rfl fun b10 hb10 => ?_
  refine TE_q rfl rfl (RD.assign rfl) rfl ?_
  refine TE_nil0 ?_
  refine pn_seq ?_
  refine pn_seq ?_
  refine pn_plain [3] rfl ?_
  refine TE_q rfl rfl (RD.fieldAddr (o := 0) Try.runUnderlying62 rfl rfl Try.sizeOf30 rfl) rfl ?_
  refine TE_q rfl rfl (RD.fieldAddr (o := 35) Try.runUnderlying30 rfl rfl Try.sizeOf26 rfl) rfl ?_
  refine TE_l rfl rfl trivial rfl (RD.load (i := 1) (v := xp) Try.isAgg26 rfl rfl rfl) rfl ?_
  refine TE_q rfl rfl (RD.lenX Try.runUnderlying26 rfl hbxp) rfl ?_
  refine TE_q rfl rfl (RD.move rfl) rfl ?_
  refine TE_nil0 ?_
  refine pn_block ?_
  refine pn_sp ((b1, .cells (objV x xd xe xp).cells 62 (0, 0)) :: (b10, .cells (cat lnkC [(⟨2, x.t⟩ : Lnk)] ++ []).toArray 28 (0, 0)) :: HX) (fun a => by simp -failIfUnchanged <;> omega) ?_
  refine pn_sp ((b1, .cells (objV x xd xe xp).cells 62 (0, 0)) :: ((bldMx 28 (lnkC) [(⟨2, x.t⟩ : Lnk)] (some (b10, 1, []))) ++ HX)) (fun a => Nat.le_refl _) ?_
  have hbo2 : BldOk 33 (lnkC) [(⟨2, x.t⟩ : Lnk)] (some (b10, 1, [])) := ⟨Nat.le_refl _, by decide, by rw [List.append_nil]; exact cat_len lnkC_len _⟩
  have hR3 : Rdx 33 (lnkC) (bldMx 28 (lnkC) [(⟨2, x.t⟩ : Lnk)] (some (b10, 1, []))) (bldVx [(⟨2, x.t⟩ : Lnk)] (some (b10, 1, []))) [(⟨2, x.t⟩ : Lnk)] := hbo2.rdx (u := 28) lnkC_len
  refine pn_loopS (σ := Nat × SnkS) (fun q => [(13, xp), (14, .int .i64 (x.pars.length : Int)), (3, bldVx ((⟨2, x.t⟩ : Lnk) :: parsL (x.pars.take q.1)) q.2), (15, .int .i64 (q.1 : Int))]) (fun q => ((bldMx 28 (lnkC) ((⟨2, x.t⟩ : Lnk) :: parsL (x.pars.take q.1)) q.2) ++ HX)) (fun q => (q.1 ≤ x.pars.length) ∧ (BldOk 33 (lnkC) ((⟨2, x.t⟩ : Lnk) :: parsL (x.pars.take q.1)) q.2) ∧ (∀ e ∈ bldMx 28 (lnkC) ((⟨2, x.t⟩ : Lnk) :: parsL (x.pars.take q.1)) q.2, w.heap.size ≤ e.1 ∨ e.1 ∈ [])) (fun q => x.pars.length - q.1) (0, (some (b10, 1, []))) ⟨(by omega), hbo2, (bldx_all (fun k => w.heap.size ≤ k ∨ k ∈ []) (by rintro b cap tl ⟨⟩; exact .inl hb10))⟩ ⟨rfl, rfl, rfl, rfl, trivial⟩ (fun a => by simp -failIfUnchanged <;> omega) ?_
  rintro ⟨i, st⟩ ⟨hi, hbost, hXst⟩
  dsimp only at hi hbost hXst ⊢
  have hRst : Rdx 33 (lnkC) (bldMx 28 (lnkC) ((⟨2, x.t⟩ : Lnk) :: parsL (x.pars.take i)) st) (bldVx ((⟨2, x.t⟩ : Lnk) :: parsL (x.pars.take i)) st) ((⟨2, x.t⟩ : Lnk) :: parsL (x.pars.take i)) := hbost.rdx (u := 28) lnkC_len
  have hln := parsL_len (x.pars.take i)
  rw [List.length_take] at hln
  refine pn_seq ?_
  refine pn_plain [] rfl ?_
  refine TE_q rfl rfl (RD.lss rfl rfl) rfl ?_
  refine TE_nil0 ?_
  refine pn_seq ?_
  refine pn_condD rfl (fun hc4 => ?_) (fun hc4 => ?_)
  · refine pn_skip ?_
    refine pn_seq ?_
    refine pn_block ?_
    refine pn_seq ?_
    refine pn_plain [] rfl ?_
    refine TE_q rfl rfl (RD.idxR (i := i) (o := (i * 32 + 0)) Try.runUnderlying26 Try.sizeOf25 rfl hbxp rfl rfl (by omega) (by rfl)) rfl ?_
    refine TE_l rfl rfl trivial rfl (RD.ldRA (i := i) (j := 0) (vs := (idC (gt x.pars i))) Try.isAgg25 Try.sizeOf25 rfl hbxp (gt_some (by omega)) (by rfl) rfl (fun _ _ hu => by rw [Nat.zero_add]; exact hu) (idC_agg _) (fun _ hw => hw.sp (fun a => by simp -failIfUnchanged <;> omega))) rfl ?_
    refine TE_allocC (idV (fun _ => 0)).cells rfl Try.zeroValue25 rfl trivial rfl fun b5 hb5 => ?_
    refine TE_putCW 0 (idV (fun _ => 0)).cells (idV (gt x.pars i)).cells ((b5, .cells (idV (gt x.pars i)).cells 25 (0, 0)) :: ((bldMx 28 (lnkC) ((⟨2, x.t⟩ : Lnk) :: parsL (x.pars.take i)) st) ++ HX)) rfl Try.sizeOf25 trivial rfl rfl rfl rfl rfl rfl rfl rfl (.inl hb5) ?_
    refine TE_nil0 ?_
    refine pn_plain [] rfl ?_
    refine TE_q rfl rfl (RD.move rfl) rfl ?_
    refine TE_l rfl rfl trivial rfl (RD.loadA (i := 0) Try.isAgg25 Try.sizeOf25 rfl rfl (Nat.le_of_ble_eq_true rfl) (id_all _)) rfl ?_
    refine TE_q rfl rfl (RD.build (v := lnkV (⟨3, (gt x.pars i)⟩ : Lnk)) rfl (fun w => by simp [Instr.build, Try.zeroValue28, Try.runUnderlying28, Try.sizeOf25, Try.sizeOf3, Value.cells, Instr.fill, lnkV, idV])) rfl ?_
    refine TE_buildSlice (cells := (cat lnkC [(⟨3, (gt x.pars i)⟩ : Lnk)] ++ []).toArray) rfl Try.runUnderlying33 Try.sizeOf28 Try.zeroValue28 rfl rfl rfl (by kernel_rfl) trivial rfl fun b22 hb22 => ?_
    refine TE_sp ((bldMx 28 (lnkC) ((⟨2, x.t⟩ : Lnk) :: parsL (x.pars.take i)) st) ++ ((b22, .cells (cat lnkC [(⟨3, (gt x.pars i)⟩ : Lnk)] ++ []).toArray 28 (0, 0)) :: (b5, .cells (idV (gt x.pars i)).cells 25 (0, 0)) :: HX)) (fun a => by simp -failIfUnchanged <;> omega) ?_
    refine TE_appendX (st := st) (l := ((⟨2, x.t⟩ : Lnk) :: parsL (x.pars.take i))) (ys := [(⟨3, (gt x.pars i)⟩ : Lnk)]) ((b22, .cells (cat lnkC [(⟨3, (gt x.pars i)⟩ : Lnk)] ++ []).toArray 28 (0, 0)) :: (b5, .cells (idV (gt x.pars i)).cells 25 (0, 0)) :: HX) lnkC_len lnkC_one rfl rfl rfl rfl trivial rfl Try.underlying33 el_lnk rfl rfl rfl hbost (Rdx.blk (enc := lnkC) (H := [(b22, .cells (cat lnkC [(⟨3, (gt x.pars i)⟩ : Lnk)] ++ []).toArray 28 (0, 0))]) (xs := [(⟨3, (gt x.pars i)⟩ : Lnk)]) (n := 1) (i := 0) (tl := []) (c := 1) lnkC_len rfl rfl (Nat.le_refl _)) (fun _ hw => hw.sp (fun a => by simp -failIfUnchanged <;> omega)) (by simp; omega) rfl hXst ?_
    intro st5 hbo6 hX7 _
    have hR9 : Rdx 33 (lnkC) (bldMx 28 (lnkC) (((⟨2, x.t⟩ : Lnk) :: parsL (x.pars.take i)) ++ [(⟨3, (gt x.pars i)⟩ : Lnk)]) st5) (bldVx (((⟨2, x.t⟩ : Lnk) :: parsL (x.pars.take i)) ++ [(⟨3, (gt x.pars i)⟩ : Lnk)]) st5) (((⟨2, x.t⟩ : Lnk) :: parsL (x.pars.take i)) ++ [(⟨3, (gt x.pars i)⟩ : Lnk)]) := hbo6.rdx (u := 28) lnkC_len
    refine TE_sp ((b22, .cells (cat lnkC [(⟨3, (gt x.pars i)⟩ : Lnk)] ++ []).toArray 28 (0, 0)) :: (b5, .cells (idV (gt x.pars i)).cells 25 (0, 0)) :: ((bldMx 28 (lnkC) (((⟨2, x.t⟩ : Lnk) :: parsL (x.pars.take i)) ++ [(⟨3, (gt x.pars i)⟩ : Lnk)]) st5) ++ HX)) (fun a => by simp -failIfUnchanged <;> omega) ?_
    refine TE_q rfl rfl (RD.assign rfl) rfl ?_
    refine TE_nil0 ?_
    refine pn_plainG [] ((bldMx 28 (lnkC) (((⟨2, x.t⟩ : Lnk) :: parsL (x.pars.take i)) ++ [(⟨3, (gt x.pars i)⟩ : Lnk)]) st5) ++ HX) rfl (fun a => by simp -failIfUnchanged <;> omega) ?_
    refine TE_q rfl rfl (RD.addI rfl rfl (by omega) (by omega)) rfl ?_
    refine TE_q rfl rfl (RD.move rfl) rfl ?_
    refine TE_nil0 ?_
    have he10 : (((⟨2, x.t⟩ : Lnk) :: parsL (x.pars.take i)) ++ [(⟨3, (gt x.pars i)⟩ : Lnk)]) = ((⟨2, x.t⟩ : Lnk) :: parsL (x.pars.take (i + 1))) := (parsL_next (by omega))
    exact pn_againS ((i + 1), st5) ⟨(by omega), (by rw [← he10]; exact hbo6), (by rw [← he10]; exact hX7)⟩ (by dsimp only; omega) ⟨rfl, rfl, (congrArg (fun l => some (bldVx l st5)) he10), rfl, trivial⟩ (fun a => by (try simp only [← he10]); simp -failIfUnchanged <;> omega)
  · refine pn_exit ?_
    refine pn_seq ?_
    refine pn_plainG [] (bldMx 28 (lnkC) ((⟨2, x.t⟩ : Lnk) :: parsL (x.pars.take i)) st) rfl (fun a => by simp -failIfUnchanged <;> omega) ?_
    refine TE_q rfl rfl (RD.move rfl) rfl ?_
    refine TE_q rfl rfl (RD.assign rfl) rfl ?_
    refine TE_nil0 ?_
    refine pn_ret ?_
    have he11 : ((⟨2, x.t⟩ : Lnk) :: parsL (x.pars.take i)) = (⟨2, x.t⟩ : Lnk) :: parsL x.pars := (congrArg (fun l => (⟨2, x.t⟩ : Lnk) :: parsL l) (take_all (by omega)))
    exact pn_doneS (bldMx 28 (lnkC) ((⟨2, x.t⟩ : Lnk) :: parsL (x.pars.take i)) st) rfl rfl ⟨st, (by rw [← he11]; exact hbost), (by rw [← he11]; rfl), (by rw [← he11])⟩ (fun a => by simp -failIfUnchanged <;> omega) hXst

theorem c_tagLinks (x : Ob) (xd : Value) (xe : Value) (xp : Value) (HX : Mem) (w : World) (hbxd : Rdb HX xd x.data) (hbxe : Rdx 34 (entC) HX xe x.ents) (hbxp : Rdx 32 (idC) HX xp x.pars) (hox : ObOk x) (hH : Hp HX w) : Calls Try.prog 120 #[objV x xd xe xp] w (Ret w [] fun v H1 => ∃ st, BldOk 33 (lnkC) [x.tg] st ∧ v = bldVx [x.tg] st ∧ H1 = bldMx 28 (lnkC) [x.tg] st) := by
  refine fn_enter (args := [_]) Try.func120 rfl Try.ntmps120 rfl hH ?_
  refine pn_seq ?_
  refine pn_plain [] rfl ?_
  refine TE_boxC (objV x xd xe xp).cells rfl rfl rfl trivial rfl fun b1 hb1 => ?_
  refine TE_q rfl rfl (RD.assign rfl) rfl ?_
  refine TE_nil0 ?_
  refine pn_seq ?_
  refine pn_plain [] rfl ?_
  refine TE_q rfl rfl (RD.fieldAddr (o := 0) Try.runUnderlying63 rfl rfl Try.sizeOf30 rfl) rfl ?_
  refine TE_q rfl rfl (RD.fieldAddr (o := 36) Try.runUnderlying30 rfl rfl Try.sizeOf28 rfl) rfl ?_
  refine TE_l rfl rfl trivial rfl (RD.loadA (i := 0) (v := lnkV x.tg) Try.isAgg28 Try.sizeOf28 rfl rfl (Nat.le_of_ble_eq_true rfl) (obj_tg _ _ _ _)) rfl ?_
  refine TE_buildSlice (cells := (cat lnkC [x.tg] ++ []).toArray) rfl Try.runUnderlying33 Try.sizeOf28 Try.zeroValue28 rfl rfl rfl (by kernel_rfl) trivial rfl fun b6 hb6 => ?_
  refine TE_q rfl rfl (RD.assign rfl) rfl ?_
  refine TE_nil0 ?_
  refine pn_ret ?_
  refine pn_sp ((b1, .cells (objV x xd xe xp).cells 63 (0, 0)) :: (b6, .cells (cat lnkC [x.tg] ++ []).toArray 28 (0, 0)) :: HX) (fun a => by simp -failIfUnchanged <;> omega) ?_
  refine pn_sp ((b1, .cells (objV x xd xe xp).cells 63 (0, 0)) :: ((bldMx 28 (lnkC) [x.tg] (some (b6, 1, []))) ++ HX)) (fun a => Nat.le_refl _) ?_
  have hbo2 : BldOk 33 (lnkC) [x.tg] (some (b6, 1, [])) := ⟨Nat.le_refl _, by decide, by rw [List.append_nil]; exact cat_len lnkC_len _⟩
  have hR3 : Rdx 33 (lnkC) (bldMx 28 (lnkC) [x.tg] (some (b6, 1, []))) (bldVx [x.tg] (some (b6, 1, []))) [x.tg] := hbo2.rdx (u := 28) lnkC_len
  exact pn_doneS (bldMx 28 (lnkC) [x.tg] (some (b6, 1, []))) rfl rfl ⟨(some (b6, 1, [])), hbo2, rfl, rfl⟩ (fun a => by simp -failIfUnchanged <;> omega) (bldx_all (fun k => w.heap.size ≤ k ∨ k ∈ []) (by rintro b cap tl ⟨⟩; exact .inl hb6))

theorem c_of7 (x : Ob) (xd : Value) (xe : Value) (xp : Value) (HX : Mem) (w : World) (hbxd : Rdb HX xd x.data) (hbxe : Rdx 34 (entC) HX xe x.ents) (hbxp : Rdx 32 (idC) HX xp x.pars) (hox : ObOk x) (hH : Hp HX w) : Calls Try.prog 16 #[objV x xd xe xp] w (Ret w [] fun v H1 => (x.k = 1 ∧ v = .tuple #[.iface 60 (objV x xd xe xp), .bool true] ∧ H1 = []) ∨ (x.k = 2 ∧ v = .tuple #[.iface 61 (objV x xd xe xp), .bool true] ∧ H1 = []) ∨ (x.k = 3 ∧ v = .tuple #[.iface 62 (objV x xd xe xp), .bool true] ∧ H1 = []) ∨ (x.k = 4 ∧ v = .tuple #[.iface 63 (objV x xd xe xp), .bool true] ∧ H1 = []) ∨ (((¬ x.k = 1 ∧ ¬ x.k = 2) ∧ ¬ x.k = 3) ∧ ¬ x.k = 4) ∧ v = .tuple #[.nilIface, .bool false] ∧ H1 = []) := by
  refine fn_enter (args := [_]) Try.func16 rfl Try.ntmps16 rfl hH ?_
  refine pn_seq ?_
  refine pn_plain [] rfl ?_
  refine TE_boxC (objV x xd xe xp).cells rfl rfl rfl trivial rfl fun b1 hb1 => ?_
  refine TE_q rfl rfl (RD.assign rfl) rfl ?_
  refine TE_q rfl rfl (RD.assign rfl) rfl ?_
  refine TE_nil0 ?_
  refine pn_seq ?_
  refine pn_seq ?_
  refine pn_plain [] rfl ?_
  refine TE_q rfl rfl (RD.fieldAddr (o := 0) Try.runUnderlying30 rfl rfl Try.sizeOf3 rfl) rfl ?_
  refine TE_l rfl rfl trivial rfl (RD.load (i := 0) (v := .int .i64 x.k) Try.isAgg3 rfl rfl rfl) rfl ?_
  refine TE_nil0 ?_
  refine pn_block ?_
  refine pn_seq ?_
  refine pn_plain [] rfl ?_
  refine TE_q rfl rfl (RD.eql rfl rfl) rfl ?_
  refine TE_q rfl rfl (RD.assign rfl) rfl ?_
  refine TE_nil0 ?_
  refine pn_condD rfl (fun hc1 => ?_) (fun hc1 => ?_)
  · refine pn_seq ?_
    refine pn_plain [] rfl ?_
    refine TE_l rfl rfl trivial rfl (RD.loadA (i := 0) Try.isAgg30 Try.sizeOf30 rfl rfl (Nat.le_of_ble_eq_true rfl) (obj_all _ _ _ _)) rfl ?_
    refine TE_q rfl rfl (RD.build (v := objV x xd xe xp) rfl (bd_object_blob x xd xe xp)) rfl ?_
    refine TE_q rfl rfl (RD.mkIface Try.underlying60 (fun _ h => nomatch h) rfl) rfl ?_
    refine TE_q rfl rfl (RD.assign rfl) rfl ?_
    refine TE_q rfl rfl (RD.assign rfl) rfl ?_
    refine TE_nil0 ?_
    refine pn_ret ?_
    exact pn_doneS [] rfl rfl (.inl ⟨hc1, rfl, rfl⟩) (fun _ => Nat.zero_le _) (fun _ he => nomatch he)
  · refine pn_seq ?_
    refine pn_plain [] rfl ?_
    refine TE_q rfl rfl (RD.eql rfl rfl) rfl ?_
    refine TE_q rfl rfl (RD.assign rfl) rfl ?_
    refine TE_nil0 ?_
    refine pn_condD rfl (fun hc2 => ?_) (fun hc2 => ?_)
    · refine pn_seq ?_
      refine pn_plain [] rfl ?_
      refine TE_l rfl rfl trivial rfl (RD.loadA (i := 0) Try.isAgg30 Try.sizeOf30 rfl rfl (Nat.le_of_ble_eq_true rfl) (obj_all _ _ _ _)) rfl ?_
      refine TE_q rfl rfl (RD.build (v := objV x xd xe xp) rfl (bd_object_tree x xd xe xp)) rfl ?_
      refine TE_q rfl rfl (RD.mkIface Try.underlying61 (fun _ h => nomatch h) rfl) rfl ?_
      refine TE_q rfl rfl (RD.assign rfl) rfl ?_
      refine TE_q rfl rfl (RD.assign rfl) rfl ?_
      refine TE_nil0 ?_
      refine pn_ret ?_
      exact pn_doneS [] rfl rfl (.inr (.inl ⟨hc2, rfl, rfl⟩)) (fun _ => Nat.zero_le _) (fun _ he => nomatch he)
    · refine pn_seq ?_
      refine pn_plain [] rfl ?_
      refine TE_q rfl rfl (RD.eql rfl rfl) rfl ?_
      refine TE_q rfl rfl (RD.assign rfl) rfl ?_
      refine TE_nil0 ?_
      refine pn_condD rfl (fun hc3 => ?_) (fun hc3 => ?_)
      · refine pn_seq ?_
        refine pn_plain [] rfl ?_
        refine TE_l rfl rfl trivial rfl (RD.loadA (i := 0) Try.isAgg30 Try.sizeOf30 rfl rfl (Nat.le_of_ble_eq_true rfl) (obj_all _ _ _ _)) rfl ?_
        refine TE_q rfl rfl (RD.build (v := objV x xd xe xp) rfl (bd_object_commit x xd xe xp)) rfl ?_
        refine TE_q rfl rfl (RD.mkIface Try.underlying62 (fun _ h => nomatch h) rfl) rfl ?_
        refine TE_q rfl rfl (RD.assign rfl) rfl ?_
        refine TE_q rfl rfl (RD.assign rfl) rfl ?_
        refine TE_nil0 ?_
        refine pn_ret ?_
        exact pn_doneS [] rfl rfl (.inr (.inr (.inl ⟨hc3, rfl, rfl⟩))) (fun _ => Nat.zero_le _) (fun _ he => nomatch he)
      · refine pn_seq ?_
        refine pn_plain [] rfl ?_
        refine TE_q rfl rfl (RD.eql rfl rfl) rfl ?_
        refine TE_q rfl rfl (RD.assign rfl) rfl ?_
        refine TE_nil0 ?_
        refine pn_condD rfl (fun hc4 => ?_) (fun hc4 => ?_)
        · refine pn_seq ?_
          refine pn_plain [] rfl ?_
          refine TE_l rfl rfl trivial rfl (RD.loadA (i := 0) Try.isAgg30 Try.sizeOf30 rfl rfl (Nat.le_of_ble_eq_true rfl) (obj_all _ _ _ _)) rfl ?_
          refine TE_q rfl rfl (RD.build (v := objV x xd xe xp) rfl (bd_object_tag x xd xe xp)) rfl ?_
          refine TE_q rfl rfl (RD.mkIface Try.underlying63 (fun _ h => nomatch h) rfl) rfl ?_
          refine TE_q rfl rfl (RD.assign rfl) rfl ?_
          refine TE_q rfl rfl (RD.assign rfl) rfl ?_
          refine TE_nil0 ?_
          refine pn_ret ?_
          exact pn_doneS [] rfl rfl (.inr (.inr (.inr (.inl ⟨hc4, rfl, rfl⟩)))) (fun _ => Nat.zero_le _) (fun _ he => nomatch he)
        · refine pn_skip ?_
          refine pn_seq ?_
          refine pn_plainG [] [] rfl (fun a => by simp -failIfUnchanged <;> omega) ?_
          refine TE_q rfl rfl (RD.assign rfl) rfl ?_
          refine TE_q rfl rfl (RD.assign rfl) rfl ?_
          refine TE_nil0 ?_
          refine pn_ret ?_
          exact pn_doneS [] rfl rfl (.inr (.inr (.inr (.inr ⟨⟨⟨⟨hc1, hc2⟩, hc3⟩, hc4⟩, rfl, rfl⟩)))) (fun _ => Nat.zero_le _) (fun _ he => nomatch he)

theorem c_obSame (x : Ob) (xd : Value) (xe : Value) (xp : Value) (y : Ob) (yd : Value) (ye : Value) (yp : Value) (HX : Mem) (w : World) (hbxd : Rdb HX xd x.data) (hbxe : Rdx 34 (entC) HX xe x.ents) (hbxp : Rdx 32 (idC) HX xp x.pars) (hbyd : Rdb HX yd y.data) (hbye : Rdx 34 (entC) HX ye y.ents) (hbyp : Rdx 32 (idC) HX yp y.pars) (hxl : x.ents.length ≤ 1000000 ∧ x.pars.length ≤ 1000000) (hyl : y.ents.length ≤ 1000000 ∧ y.pars.length ≤ 1000000) (hH : Hp HX w) : Calls Try.prog 10 #[objV x xd xe xp, objV y yd ye yp] w (Ret w [] fun v H1 => v = .bool (obSame x y) ∧ H1 = []) := by
  have hx1 := hxl.1; have hx2 := hxl.2; have hy1 := hyl.1; have hy2 := hyl.2
  refine fn_enter (args := [_, _]) Try.func10 rfl Try.ntmps10 rfl hH ?_
  refine pn_seq ?_
  refine pn_plain [] rfl ?_
  refine TE_boxC (objV x xd xe xp).cells rfl rfl rfl trivial rfl fun b2 hb2 => ?_
  refine TE_boxC (objV y yd ye yp).cells rfl rfl rfl trivial rfl fun b3 hb3 => ?_
  refine TE_q rfl rfl (RD.assign rfl) rfl ?_
  refine TE_nil0 ?_
  refine pn_seq ?_
  refine pn_plain [] rfl ?_
  refine TE_q rfl rfl (RD.fieldAddr (o := 0) Try.runUnderlying30 rfl rfl Try.sizeOf3 rfl) rfl ?_
  refine TE_l rfl rfl trivial rfl (RD.load (i := 1) (v := .int .i64 x.k) Try.isAgg3 rfl rfl rfl) rfl ?_
  refine TE_q rfl rfl (RD.fieldAddr (o := 0) Try.runUnderlying30 rfl rfl Try.sizeOf3 rfl) rfl ?_
  refine TE_l rfl rfl trivial rfl (RD.load (i := 0) (v := .int .i64 y.k) Try.isAgg3 rfl rfl rfl) rfl ?_
  refine TE_q rfl rfl (RD.eql rfl rfl) rfl ?_
  refine TE_q rfl rfl (RD.move rfl) rfl ?_
  refine TE_join (σ := Unit) (fun _ => [(4, .bool ((decide (x.k = y.k)) && ((decide (x.data = y.data)) && ((sameGL same_ent x.ents y.ents) && ((sameN 32 x.t y.t) && ((sameIL x.pars y.pars) && ((same_lnk x.tg y.tg) && (decide (x.m = y.m)))))))))]) (fun _ => ((b3, .cells (objV y yd ye yp).cells 30 (0, 0)) :: (b2, .cells (objV x xd xe xp).cells 30 (0, 0)) :: HX)) (fun _ => True) ?_ ?_
  · refine TE_dec (fun hf1 => ?_) (fun hf1 => ?_)
    · refine TE_gq rfl rfl rfl rfl (RD.fieldAddr (o := 1) Try.runUnderlying30 rfl rfl Try.sizeOf22 rfl) rfl ?_
      refine TE_l rfl rfl ⟨_, rfl, rfl⟩ rfl (RD.load (i := 1) (v := xd) Try.isAgg22 rfl rfl rfl) rfl ?_
      refine TE_gq rfl rfl rfl rfl (RD.fieldAddr (o := 1) Try.runUnderlying30 rfl rfl Try.sizeOf22 rfl) rfl ?_
      refine TE_l rfl rfl ⟨_, rfl, rfl⟩ rfl (RD.load (i := 0) (v := yd) Try.isAgg22 rfl rfl rfl) rfl ?_
      refine TE_callG _ HX rfl rfl ⟨_, rfl, rfl⟩ Try.call18 rfl rfl rfl (fun w hw => c_bytesEqual xd x.data yd y.data HX w (hbxd.mono (fun _ hw => hw.sp (fun a => by simp -failIfUnchanged <;> omega))) (hbyd.mono (fun _ hw => hw.sp (fun a => by simp -failIfUnchanged <;> omega))) (hw.sp (fun a => by simp -failIfUnchanged <;> omega))) (fun a => by simp -failIfUnchanged <;> omega) ?_
      rintro v2 H3 ⟨rfl, rfl⟩ -
      refine TE_q rfl rfl (RD.pickT rfl rfl) rfl ?_
      refine TE_q rfl rfl (RD.move rfl) rfl ?_
      refine TE_dec (fun hf4 => ?_) (fun hf4 => ?_)
      · refine TE_gq rfl rfl rfl rfl (RD.fieldAddr (o := 2) Try.runUnderlying30 rfl rfl Try.sizeOf23 rfl) rfl ?_
        refine TE_l rfl rfl ⟨_, rfl, rfl⟩ rfl (RD.load (i := 1) (v := xe) Try.isAgg23 rfl rfl rfl) rfl ?_
        refine TE_gq rfl rfl rfl rfl (RD.fieldAddr (o := 2) Try.runUnderlying30 rfl rfl Try.sizeOf23 rfl) rfl ?_
        refine TE_l rfl rfl ⟨_, rfl, rfl⟩ rfl (RD.load (i := 0) (v := ye) Try.isAgg23 rfl rfl rfl) rfl ?_
        refine TE_callG _ HX rfl rfl ⟨_, rfl, rfl⟩ Try.call19 rfl rfl rfl (fun w hw => c_equalE xe x.ents ye y.ents HX w (hbxe.mono (fun _ hw => hw.sp (fun a => by simp -failIfUnchanged <;> omega))) (by first | assumption | omega | (simp; done) | (simp; omega)) (hbye.mono (fun _ hw => hw.sp (fun a => by simp -failIfUnchanged <;> omega))) (by first | assumption | omega | (simp; done) | (simp; omega)) (hw.sp (fun a => by simp -failIfUnchanged <;> omega))) (fun a => by simp -failIfUnchanged <;> omega) ?_
        rintro v5 H6 ⟨rfl, rfl⟩ -
        refine TE_q rfl rfl (RD.pickT rfl rfl) rfl ?_
        refine TE_q rfl rfl (RD.move rfl) rfl ?_
        refine TE_bool (fun hf7 => ?_) (fun hf7 => ?_)
        · refine TE_gq rfl rfl rfl rfl (RD.fieldAddr (o := 3) Try.runUnderlying30 rfl rfl Try.sizeOf25 rfl) rfl ?_
          refine TE_l rfl rfl ⟨_, rfl, rfl⟩ rfl (RD.loadA (i := 1) (v := idV x.t) Try.isAgg25 Try.sizeOf25 rfl rfl (Nat.le_of_ble_eq_true rfl) (obj_t _ _ _ _)) rfl ?_
          refine TE_gq rfl rfl rfl rfl (RD.fieldAddr (o := 3) Try.runUnderlying30 rfl rfl Try.sizeOf25 rfl) rfl ?_
          refine TE_l rfl rfl ⟨_, rfl, rfl⟩ rfl (RD.loadA (i := 0) (v := idV y.t) Try.isAgg25 Try.sizeOf25 rfl rfl (Nat.le_of_ble_eq_true rfl) (obj_t _ _ _ _)) rfl ?_
          refine TE_gq rfl rfl rfl rfl (RD.eql_agg Try.eqGuardType25 (eq_id x.t y.t) rfl rfl) rfl ?_
          refine TE_q rfl rfl (RD.pickT rfl rfl) rfl ?_
          refine TE_q rfl rfl (RD.move rfl) rfl ?_
          refine TE_bool (fun hf8 => ?_) (fun hf8 => ?_)
          · refine TE_gq rfl rfl rfl rfl (RD.fieldAddr (o := 35) Try.runUnderlying30 rfl rfl Try.sizeOf26 rfl) rfl ?_
            refine TE_l rfl rfl ⟨_, rfl, rfl⟩ rfl (RD.load (i := 1) (v := xp) Try.isAgg26 rfl rfl rfl) rfl ?_
            refine TE_gq rfl rfl rfl rfl (RD.fieldAddr (o := 35) Try.runUnderlying30 rfl rfl Try.sizeOf26 rfl) rfl ?_
            refine TE_l rfl rfl ⟨_, rfl, rfl⟩ rfl (RD.load (i := 0) (v := yp) Try.isAgg26 rfl rfl rfl) rfl ?_
            refine TE_callG _ HX rfl rfl ⟨_, rfl, rfl⟩ Try.call20 rfl rfl rfl (fun w hw => c_equalI xp x.pars yp y.pars HX w (hbxp.mono (fun _ hw => hw.sp (fun a => by simp -failIfUnchanged <;> omega))) (by first | assumption | omega | (simp; done) | (simp; omega)) (hbyp.mono (fun _ hw => hw.sp (fun a => by simp -failIfUnchanged <;> omega))) (by first | assumption | omega | (simp; done) | (simp; omega)) (hw.sp (fun a => by simp -failIfUnchanged <;> omega))) (fun a => by simp -failIfUnchanged <;> omega) ?_
            rintro v9 H10 ⟨rfl, rfl⟩ -
            refine TE_q rfl rfl (RD.pickT rfl rfl) rfl ?_
            refine TE_q rfl rfl (RD.move rfl) rfl ?_
            refine TE_bool (fun hf11 => ?_) (fun hf11 => ?_)
            · refine TE_gq rfl rfl rfl rfl (RD.fieldAddr (o := 36) Try.runUnderlying30 rfl rfl Try.sizeOf28 rfl) rfl ?_
              refine TE_l rfl rfl ⟨_, rfl, rfl⟩ rfl (RD.loadA (i := 1) (v := lnkV x.tg) Try.isAgg28 Try.sizeOf28 rfl rfl (Nat.le_of_ble_eq_true rfl) (obj_tg _ _ _ _)) rfl ?_
              refine TE_gq rfl rfl rfl rfl (RD.fieldAddr (o := 36) Try.runUnderlying30 rfl rfl Try.sizeOf28 rfl) rfl ?_
              refine TE_l rfl rfl ⟨_, rfl, rfl⟩ rfl (RD.loadA (i := 0) (v := lnkV y.tg) Try.isAgg28 Try.sizeOf28 rfl rfl (Nat.le_of_ble_eq_true rfl) (obj_tg _ _ _ _)) rfl ?_
              refine TE_gq rfl rfl rfl rfl (RD.eql_agg Try.eqGuardType28 (eq_lnk x.tg y.tg) rfl rfl) rfl ?_
              refine TE_q rfl rfl (RD.pickT rfl rfl) rfl ?_
              refine TE_q rfl rfl (RD.move rfl) rfl ?_
              refine TE_bool (fun hf12 => ?_) (fun hf12 => ?_)
              · refine TE_gq rfl rfl rfl rfl (RD.fieldAddr (o := 69) Try.runUnderlying30 rfl rfl Try.sizeOf9 rfl) rfl ?_
                refine TE_l rfl rfl ⟨_, rfl, rfl⟩ rfl (RD.load (i := 1) (v := .string x.m) Try.isAgg9 rfl rfl rfl) rfl ?_
                refine TE_gq rfl rfl rfl rfl (RD.fieldAddr (o := 69) Try.runUnderlying30 rfl rfl Try.sizeOf9 rfl) rfl ?_
                refine TE_l rfl rfl ⟨_, rfl, rfl⟩ rfl (RD.load (i := 0) (v := .string y.m) Try.isAgg9 rfl rfl rfl) rfl ?_
                refine TE_gq rfl rfl rfl rfl (RD.eql_string rfl rfl) rfl ?_
                refine TE_q rfl rfl (RD.pickT rfl rfl) rfl ?_
                refine TE_q rfl rfl (RD.assign rfl) rfl ?_
                refine TE_nil0 ?_
                exact pn_give () trivial ⟨congrArg (fun b => some (Value.bool b)) (by first | (simp [hf1, hf4, hf7, hf8, hf11, hf12]; done) | (simp only [decide_eq_true hf1, decide_eq_true hf4, hf7, hf8, hf11, hf12]; rfl)), trivial⟩ (fun _ hw => hw.sp (fun a => by simp -failIfUnchanged <;> omega))
              · refine TE_s rfl rfl rfl rfl rfl ?_
                refine TE_s rfl rfl rfl rfl rfl ?_
                refine TE_s rfl rfl rfl rfl rfl ?_
                refine TE_s rfl rfl rfl rfl rfl ?_
                refine TE_s rfl rfl rfl rfl rfl ?_
                refine TE_q rfl rfl (RD.pickF rfl rfl) rfl ?_
                refine TE_q rfl rfl (RD.assign rfl) rfl ?_
                refine TE_nil0 ?_
                exact pn_give () trivial ⟨congrArg (fun b => some (Value.bool b)) (by first | (simp [hf1, hf4, hf7, hf8, hf11, hf12]; done) | (simp only [decide_eq_true hf1, decide_eq_true hf4, hf7, hf8, hf11, hf12]; rfl)), trivial⟩ (fun _ hw => hw.sp (fun a => by simp -failIfUnchanged <;> omega))
            · refine TE_s rfl rfl rfl rfl rfl ?_
              refine TE_s rfl rfl rfl rfl rfl ?_
              refine TE_s rfl rfl rfl rfl rfl ?_
              refine TE_s rfl rfl rfl rfl rfl ?_
              refine TE_s rfl rfl rfl rfl rfl ?_
              refine TE_q rfl rfl (RD.pickF rfl rfl) rfl ?_
              refine TE_q rfl rfl (RD.move rfl) rfl ?_
              refine TE_s rfl rfl rfl rfl rfl ?_
              refine TE_s rfl rfl rfl rfl rfl ?_
              refine TE_s rfl rfl rfl rfl rfl ?_
              refine TE_s rfl rfl rfl rfl rfl ?_
              refine TE_s rfl rfl rfl rfl rfl ?_
              refine TE_q rfl rfl (RD.pickF rfl rfl) rfl ?_
              refine TE_q rfl rfl (RD.assign rfl) rfl ?_
              refine TE_nil0 ?_
              exact pn_give () trivial ⟨congrArg (fun b => some (Value.bool b)) (by first | (simp [hf1, hf4, hf7, hf8, hf11]; done) | (simp only [decide_eq_true hf1, decide_eq_true hf4, hf7, hf8, hf11]; rfl)), trivial⟩ (fun _ hw => hw.sp (fun a => by simp -failIfUnchanged <;> omega))
          · refine TE_s rfl rfl rfl rfl rfl ?_
            refine TE_s rfl rfl rfl rfl rfl ?_
            refine TE_s rfl rfl rfl rfl rfl ?_
            refine TE_s rfl rfl rfl rfl rfl ?_
            refine TE_s rfl rfl rfl rfl rfl ?_
            refine TE_q rfl rfl (RD.pickF rfl rfl) rfl ?_
            refine TE_q rfl rfl (RD.move rfl) rfl ?_
            refine TE_s rfl rfl rfl rfl rfl ?_
            refine TE_s rfl rfl rfl rfl rfl ?_
            refine TE_s rfl rfl rfl rfl rfl ?_
            refine TE_s rfl rfl rfl rfl rfl ?_
            refine TE_s rfl rfl rfl rfl rfl ?_
            refine TE_q rfl rfl (RD.pickF rfl rfl) rfl ?_
            refine TE_q rfl rfl (RD.move rfl) rfl ?_
            refine TE_s rfl rfl rfl rfl rfl ?_
            refine TE_s rfl rfl rfl rfl rfl ?_
            refine TE_s rfl rfl rfl rfl rfl ?_
            refine TE_s rfl rfl rfl rfl rfl ?_
            refine TE_s rfl rfl rfl rfl rfl ?_
            refine TE_q rfl rfl (RD.pickF rfl rfl) rfl ?_
            refine TE_q rfl rfl (RD.assign rfl) rfl ?_
            refine TE_nil0 ?_
            exact pn_give () trivial ⟨congrArg (fun b => some (Value.bool b)) (by first | (simp [hf1, hf4, hf7, hf8]; done) | (simp only [decide_eq_true hf1, decide_eq_true hf4, hf7, hf8]; rfl)), trivial⟩ (fun _ hw => hw.sp (fun a => by simp -failIfUnchanged <;> omega))
        · refine TE_s rfl rfl rfl rfl rfl ?_
          refine TE_s rfl rfl rfl rfl rfl ?_
          refine TE_s rfl rfl rfl rfl rfl ?_
          refine TE_s rfl rfl rfl rfl rfl ?_
          refine TE_s rfl rfl rfl rfl rfl ?_
          refine TE_q rfl rfl (RD.pickF rfl rfl) rfl ?_
          refine TE_q rfl rfl (RD.move rfl) rfl ?_
          refine TE_s rfl rfl rfl rfl rfl ?_
          refine TE_s rfl rfl rfl rfl rfl ?_
          refine TE_s rfl rfl rfl rfl rfl ?_
          refine TE_s rfl rfl rfl rfl rfl ?_
          refine TE_s rfl rfl rfl rfl rfl ?_
          refine TE_q rfl rfl (RD.pickF rfl rfl) rfl ?_
          refine TE_q rfl rfl (RD.move rfl) rfl ?_
          refine TE_s rfl rfl rfl rfl rfl ?_
          refine TE_s rfl rfl rfl rfl rfl ?_
          refine TE_s rfl rfl rfl rfl rfl ?_
          refine TE_s rfl rfl rfl rfl rfl ?_
          refine TE_s rfl rfl rfl rfl rfl ?_
          refine TE_q rfl rfl (RD.pickF rfl rfl) rfl ?_
          refine TE_q rfl rfl (RD.move rfl) rfl ?_
          refine TE_s rfl rfl rfl rfl rfl ?_
          refine TE_s rfl rfl rfl rfl rfl ?_
          refine TE_s rfl rfl rfl rfl rfl ?_
          refine TE_s rfl rfl rfl rfl rfl ?_
          refine TE_s rfl rfl rfl rfl rfl ?_
          refine TE_q rfl rfl (RD.pickF rfl rfl) rfl ?_
          refine TE_q rfl rfl (RD.assign rfl) rfl ?_
          refine TE_nil0 ?_
          exact pn_give () trivial ⟨congrArg (fun b => some (Value.bool b)) (by first | (simp [hf1, hf4, hf7]; done) | (simp only [decide_eq_true hf1, decide_eq_true hf4, hf7]; rfl)), trivial⟩ (fun _ hw => hw.sp (fun a => by simp -failIfUnchanged <;> omega))
      · refine TE_s rfl rfl rfl rfl rfl ?_
        refine TE_s rfl rfl rfl rfl rfl ?_
        refine TE_s rfl rfl rfl rfl rfl ?_
        refine TE_s rfl rfl rfl rfl rfl ?_
        refine TE_s rfl rfl rfl rfl rfl ?_
        refine TE_q rfl rfl (RD.pickF rfl rfl) rfl ?_
        refine TE_q rfl rfl (RD.move rfl) rfl ?_
        refine TE_s rfl rfl rfl rfl rfl ?_
        refine TE_s rfl rfl rfl rfl rfl ?_
        refine TE_s rfl rfl rfl rfl rfl ?_
        refine TE_s rfl rfl rfl rfl rfl ?_
        refine TE_s rfl rfl rfl rfl rfl ?_
        refine TE_q rfl rfl (RD.pickF rfl rfl) rfl ?_
        refine TE_q rfl rfl (RD.move rfl) rfl ?_
        refine TE_s rfl rfl rfl rfl rfl ?_
        refine TE_s rfl rfl rfl rfl rfl ?_
        refine TE_s rfl rfl rfl rfl rfl ?_
        refine TE_s rfl rfl rfl rfl rfl ?_
        refine TE_s rfl rfl rfl rfl rfl ?_
        refine TE_q rfl rfl (RD.pickF rfl rfl) rfl ?_
        refine TE_q rfl rfl (RD.move rfl) rfl ?_
        refine TE_s rfl rfl rfl rfl rfl ?_
        refine TE_s rfl rfl rfl rfl rfl ?_
        refine TE_s rfl rfl rfl rfl rfl ?_
        refine TE_s rfl rfl rfl rfl rfl ?_
        refine TE_s rfl rfl rfl rfl rfl ?_
        refine TE_q rfl rfl (RD.pickF rfl rfl) rfl ?_
        refine TE_q rfl rfl (RD.move rfl) rfl ?_
        refine TE_s rfl rfl rfl rfl rfl ?_
        refine TE_s rfl rfl rfl rfl rfl ?_
        refine TE_s rfl rfl rfl rfl rfl ?_
        refine TE_s rfl rfl rfl rfl rfl ?_
        refine TE_s rfl rfl rfl rfl rfl ?_
        refine TE_q rfl rfl (RD.pickF rfl rfl) rfl ?_
        refine TE_q rfl rfl (RD.assign rfl) rfl ?_
        refine TE_nil0 ?_
        exact pn_give () trivial ⟨congrArg (fun b => some (Value.bool b)) (by first | (simp [hf1, hf4]; done) | (simp only [decide_eq_true hf1, decide_eq_false hf4]; rfl)), trivial⟩ (fun _ hw => hw.sp (fun a => by simp -failIfUnchanged <;> omega))
    · refine TE_s rfl rfl rfl rfl rfl ?_
      refine TE_s rfl rfl rfl rfl rfl ?_
      refine TE_s rfl rfl rfl rfl rfl ?_
      refine TE_s rfl rfl rfl rfl rfl ?_
      refine TE_s rfl rfl rfl rfl rfl ?_
      refine TE_q rfl rfl (RD.pickF rfl rfl) rfl ?_
      refine TE_q rfl rfl (RD.move rfl) rfl ?_
      refine TE_s rfl rfl rfl rfl rfl ?_
      refine TE_s rfl rfl rfl rfl rfl ?_
      refine TE_s rfl rfl rfl rfl rfl ?_
      refine TE_s rfl rfl rfl rfl rfl ?_
      refine TE_s rfl rfl rfl rfl rfl ?_
      refine TE_q rfl rfl (RD.pickF rfl rfl) rfl ?_
      refine TE_q rfl rfl (RD.move rfl) rfl ?_
      refine TE_s rfl rfl rfl rfl rfl ?_
      refine TE_s rfl rfl rfl rfl rfl ?_
      refine TE_s rfl rfl rfl rfl rfl ?_
      refine TE_s rfl rfl rfl rfl rfl ?_
      refine TE_s rfl rfl rfl rfl rfl ?_
      refine TE_q rfl rfl (RD.pickF rfl rfl) rfl ?_
      refine TE_q rfl rfl (RD.move rfl) rfl ?_
      refine TE_s rfl rfl rfl rfl rfl ?_
      refine TE_s rfl rfl rfl rfl rfl ?_
      refine TE_s rfl rfl rfl rfl rfl ?_
      refine TE_s rfl rfl rfl rfl rfl ?_
      refine TE_s rfl rfl rfl rfl rfl ?_
      refine TE_q rfl rfl (RD.pickF rfl rfl) rfl ?_
      refine TE_q rfl rfl (RD.move rfl) rfl ?_
      refine TE_s rfl rfl rfl rfl rfl ?_
      refine TE_s rfl rfl rfl rfl rfl ?_
      refine TE_s rfl rfl rfl rfl rfl ?_
      refine TE_s rfl rfl rfl rfl rfl ?_
      refine TE_s rfl rfl rfl rfl rfl ?_
      refine TE_q rfl rfl (RD.pickF rfl rfl) rfl ?_
      refine TE_q rfl rfl (RD.move rfl) rfl ?_
      refine TE_s rfl rfl rfl rfl rfl ?_
      refine TE_s rfl rfl rfl rfl rfl ?_
      refine TE_s rfl rfl rfl rfl rfl ?_
      refine TE_s rfl rfl rfl rfl rfl ?_
      refine TE_s rfl rfl rfl rfl rfl ?_
      refine TE_q rfl rfl (RD.pickF rfl rfl) rfl ?_
      refine TE_q rfl rfl (RD.assign rfl) rfl ?_
      refine TE_nil0 ?_
      exact pn_give () trivial ⟨congrArg (fun b => some (Value.bool b)) (by first | (simp [hf1]; done) | (simp only [decide_eq_false hf1]; rfl)), trivial⟩ (fun _ hw => hw.sp (fun a => by simp -failIfUnchanged <;> omega))
  rintro _ -
  refine pn_ret ?_
  exact pn_doneS [] rfl rfl ⟨rfl, rfl⟩ (fun _ => Nat.zero_le _) (fun _ he => nomatch he)

end Go.Proofs.Ytloljpefdecmhaa

namespace Go.Proofs.Ytloljpefdecmhaa
open Go Go.Mv
set_option maxRecDepth 8000
theorem okK1 {x : Ob} (hk : x.k = 1) : obOkB x = (decide ((x.data.length : Int) ≤ 1024) && obSame (⟨x.k, x.data, [], (fun _ => 0), [], (⟨0, (fun _ => 0)⟩ : Lnk), ⟨#[]⟩⟩ : Ob) x) := by
  rw [obOkB, mayB, bareOb, if_pos hk, if_pos hk]
  congr 1
  exact decide_eq_decide.2 (by omega)
theorem okK2 {x : Ob} (hk : x.k = 2) : obOkB x = (treeB x.ents && obSame (⟨x.k, [], x.ents, (fun _ => 0), [], (⟨0, (fun _ => 0)⟩ : Lnk), ⟨#[]⟩⟩ : Ob) x) := by
  have h1 : ¬ x.k = 1 := by omega
  rw [obOkB, mayB, bareOb, if_neg h1, if_neg h1, if_pos hk, if_pos hk]
  rfl
theorem okK3 {x : Ob} (hk : x.k = 3) : obOkB x = ((parsB x.pars && decide ((x.m.size : Int) ≤ 200)) && obSame (⟨x.k, [], [], x.t, x.pars, (⟨0, (fun _ => 0)⟩ : Lnk), x.m⟩ : Ob) x) := by
  have h1 : ¬ x.k = 1 := by omega
  have h2 : ¬ x.k = 2 := by omega
  rw [obOkB, mayB, bareOb, if_neg h1, if_neg h1, if_neg h2, if_neg h2, if_pos hk, if_pos hk]
  congr 1
  congr 1
  exact decide_eq_decide.2 (by omega)
theorem okK4 {x : Ob} (hk : x.k = 4) : obOkB x = (((decide (1 ≤ x.tg.k) && decide (x.tg.k ≤ 4)) && decide ((x.m.size : Int) ≤ 200)) && obSame (⟨x.k, [], [], (fun _ => 0), [], x.tg, x.m⟩ : Ob) x) := by
  have h1 : ¬ x.k = 1 := by omega
  have h2 : ¬ x.k = 2 := by omega
  have h3 : ¬ x.k = 3 := by omega
  rw [obOkB, mayB, bareOb, if_neg h1, if_neg h1, if_neg h2, if_neg h2, if_neg h3, if_neg h3, if_pos hk]
  congr 1
  congr 1
  exact decide_eq_decide.2 (by omega)
theorem chkE_F {x : Ob} {m s e : Bool} (h : obOkB x = (m && s)) (he : e = (!m || !s)) (hc : e = true) : (70 : Int) = err (obOkB x) 70 := by
  rw [h]; rw [he] at hc; revert hc; cases m <;> cases s <;> first | exact fun _ => rfl | exact fun h => by cases h
theorem chkE_T {x : Ob} {m s e : Bool} (h : obOkB x = (m && s)) (he : e = (!m || !s)) (hc : e = false) : (0 : Int) = err (obOkB x) 70 := by
  rw [h]; rw [he] at hc; revert hc; cases m <;> cases s <;> first | exact fun _ => rfl | exact fun h => by cases h

theorem c_obCheck (x : Ob) (xd : Value) (xe : Value) (xp : Value) (HX : Mem) (w : World) (hbxd : Rdb HX xd x.data) (hbxe : Rdx 34 (entC) HX xe x.ents) (hbxp : Rdx 32 (idC) HX xp x.pars) (hox : ObOk x) (hH : Hp HX w) : Calls Try.prog 14 #[objV x xd xe xp] w (Ret w [] fun v H1 => v = .int .i64 (err (obOkB x) 70) ∧ H1 = []) := by
  have hw1 := hox.d; have hw2 := hox.e; have hw3 := hox.p; have hw4 := hox.m; have hwe := hox.en
  refine fn_enter (args := [_]) Try.func14 rfl Try.ntmps14 rfl hH ?_
  refine pn_seq ?_
  refine pn_plain [] rfl ?_
  refine TE_boxC (objV x xd xe xp).cells rfl rfl rfl trivial rfl fun b1 hb1 => ?_
  refine TE_q rfl rfl (RD.assign rfl) rfl ?_
  refine TE_nil0 ?_
  refine pn_seq ?_
  refine pn_plain [] rfl ?_
  refine TE_l rfl rfl trivial rfl (RD.loadA (i := 0) Try.isAgg30 Try.sizeOf30 rfl rfl (Nat.le_of_ble_eq_true rfl) (obj_all _ _ _ _)) rfl ?_
  refine TE_callG _ HX rfl rfl trivial Try.call16 rfl rfl rfl (fun w hw => c_of7 x xd xe xp HX w (hbxd.mono (fun _ hw => hw.sp (fun a => by simp -failIfUnchanged <;> omega))) (hbxe.mono (fun _ hw => hw.sp (fun a => by simp -failIfUnchanged <;> omega))) (hbxp.mono (fun _ hw => hw.sp (fun a => by simp -failIfUnchanged <;> omega))) hox (hw.sp (fun a => by simp -failIfUnchanged <;> omega))) (fun a => by simp -failIfUnchanged <;> omega) ?_
  rintro v9 H10 (⟨hk1, rfl, rfl⟩ | ⟨hk2, rfl, rfl⟩ | ⟨hk3, rfl, rfl⟩ | ⟨hk4, rfl, rfl⟩ | ⟨⟨⟨⟨hk5, hk6⟩, hk7⟩, hk8⟩, rfl, rfl⟩) hX11
  · refine TE_q rfl rfl (RD.move rfl) rfl ?_
    refine TE_q rfl rfl (RD.extract rfl rfl) rfl ?_
    refine TE_q rfl rfl (RD.extract rfl rfl) rfl ?_
    refine TE_q rfl rfl (RD.assign rfl) rfl ?_
    refine TE_q rfl rfl (RD.assign rfl) rfl ?_
    refine TE_nil0 ?_
    refine pn_seq ?_
    refine pn_seq ?_
    refine pn_drawG [10] [] ((b1, .cells (objV x xd xe xp).cells 30 (0, 0)) :: HX) rfl rfl (by kernel_rfl) (fun a => by simp -failIfUnchanged <;> omega) ?_
    refine TE_q rfl rfl (RD.move rfl) rfl ?_
    refine TE_q rfl rfl (RD.as (v := .bool false) (RD.not rfl) rfl) rfl ?_
    refine TE_q rfl rfl (RD.move rfl) rfl ?_
    refine TE_gq rfl rfl rfl rfl (RD.move rfl) rfl ?_
    refine TE_invM _ [] [] HX inv_blob_may rfl rfl ⟨_, rfl, rfl⟩ rfl rfl rfl own0 (fun a => by simp -failIfUnchanged <;> omega) (fun w hw => c_blobMay x xd xe xp HX w (hbxd.mono (fun _ hw => hw.sp (fun a => by simp -failIfUnchanged <;> omega))) (hbxe.mono (fun _ hw => hw.sp (fun a => by simp -failIfUnchanged <;> omega))) (hbxp.mono (fun _ hw => hw.sp (fun a => by simp -failIfUnchanged <;> omega))) hox (hw.sp (fun a => by simp -failIfUnchanged <;> omega))) (fun a => by simp -failIfUnchanged <;> omega) ?_
    rintro v12 H13 ⟨rfl, rfl⟩ -
    refine TE_sp [] (fun a => by simp -failIfUnchanged <;> omega) ?_
    refine TE_gq rfl rfl rfl rfl (RD.not rfl) rfl ?_
    refine TE_q rfl rfl (RD.pickF rfl rfl) rfl ?_
    refine TE_q rfl rfl (RD.move rfl) rfl ?_
    refine TE_join (σ := Unit) (fun _ => [(23, .bool ((!decide ((x.data.length : Int) ≤ 1024)) || (!(obSame (⟨x.k, x.data, [], (fun _ => 0), [], (⟨0, (fun _ => 0)⟩ : Lnk), ⟨#[]⟩⟩ : Ob) x))))]) (fun _ => ((b1, .cells (objV x xd xe xp).cells 30 (0, 0)) :: HX)) (fun _ => True) ?_ ?_
    · refine TE_ndec (fun hf14 => ?_) (fun hf14 => ?_)
      · refine TE_s rfl rfl rfl rfl rfl ?_
        refine TE_s rfl rfl rfl rfl rfl ?_
        refine TE_s rfl rfl rfl rfl rfl ?_
        refine TE_s rfl rfl rfl rfl rfl ?_
        refine TE_s rfl rfl rfl rfl rfl ?_
        refine TE_q rfl rfl (RD.pickT rfl rfl) rfl ?_
        refine TE_nil ?_
        exact pn_give () trivial ⟨congrArg (fun b => some (Value.bool b)) (by first | (simp [hf14]; done) | (simp only [decide_eq_false hf14]; rfl)), trivial⟩ (fun _ hw => hw.sp (fun a => by simp -failIfUnchanged <;> omega))
      · refine TE_gq rfl rfl rfl rfl (RD.move rfl) rfl ?_
        refine TE_invM _ [] [] HX inv_blob_bare rfl rfl ⟨_, rfl, rfl⟩ rfl rfl rfl own0 (fun a => by simp -failIfUnchanged <;> omega) (fun w hw => c_blobBare x xd xe xp HX w (hbxd.mono (fun _ hw => hw.sp (fun a => by simp -failIfUnchanged <;> omega))) (hbxe.mono (fun _ hw => hw.sp (fun a => by simp -failIfUnchanged <;> omega))) (hbxp.mono (fun _ hw => hw.sp (fun a => by simp -failIfUnchanged <;> omega))) hox (hw.sp (fun a => by simp -failIfUnchanged <;> omega))) (fun a => by simp -failIfUnchanged <;> omega) ?_
        rintro v15 H16 ⟨rfl, rfl⟩ -
        refine TE_sp [] (fun a => by simp -failIfUnchanged <;> omega) ?_
        refine TE_gq rfl rfl rfl rfl (RD.loadA (i := 0) Try.isAgg30 Try.sizeOf30 rfl rfl (Nat.le_of_ble_eq_true rfl) (obj_all _ _ _ _)) rfl ?_
        refine TE_callG _ HX rfl rfl ⟨_, rfl, rfl⟩ Try.call10 rfl rfl rfl (fun w hw => c_obSame (⟨x.k, x.data, [], (fun _ => 0), [], (⟨0, (fun _ => 0)⟩ : Lnk), ⟨#[]⟩⟩ : Ob) xd (.slice none 0 0) (.slice none 0 0) x xd xe xp HX w (hbxd.mono (fun _ hw => hw.sp (fun a => by simp -failIfUnchanged <;> omega))) Rdx.nil Rdx.nil (hbxd.mono (fun _ hw => hw.sp (fun a => by simp -failIfUnchanged <;> omega))) (hbxe.mono (fun _ hw => hw.sp (fun a => by simp -failIfUnchanged <;> omega))) (hbxp.mono (fun _ hw => hw.sp (fun a => by simp -failIfUnchanged <;> omega))) ⟨(by first | omega | (dsimp only [List.length_nil]; omega) | simp), (by first | omega | (dsimp only [List.length_nil]; omega) | simp)⟩ ⟨(by first | omega | (dsimp only [List.length_nil]; omega) | simp), (by first | omega | (dsimp only [List.length_nil]; omega) | simp)⟩ (hw.sp (fun a => by simp -failIfUnchanged <;> omega))) (fun a => by simp -failIfUnchanged <;> omega) ?_
        rintro v17 H18 ⟨rfl, rfl⟩ -
        refine TE_gq rfl rfl rfl rfl (RD.not rfl) rfl ?_
        refine TE_q rfl rfl (RD.pickF rfl rfl) rfl ?_
        refine TE_nil ?_
        exact pn_give () trivial ⟨congrArg (fun b => some (Value.bool b)) (by first | (simp [hf14]; done) | (simp only [decide_eq_true hf14]; rfl)), trivial⟩ (fun _ hw => hw.sp (fun a => by simp -failIfUnchanged <;> omega))
    rintro _ -
    refine pn_cond rfl (fun hc19 => ?_) (fun hc19 => ?_)
    · refine pn_seq ?_
      refine pn_plainG [] [] rfl (fun a => by simp -failIfUnchanged <;> omega) ?_
      refine TE_q rfl rfl (RD.assign rfl) rfl ?_
      refine TE_nil0 ?_
      refine pn_ret ?_
      exact pn_doneS [] rfl rfl ⟨(congrArg (Value.int .i64) (chkE_F (okK1 hk1) rfl hc19)), rfl⟩ (fun _ => Nat.zero_le _) (fun _ he => nomatch he)
    · refine pn_skip ?_
      refine pn_seq ?_
      refine pn_plainG [] [] rfl (fun a => by simp -failIfUnchanged <;> omega) ?_
      refine TE_q rfl rfl (RD.assign rfl) rfl ?_
      refine TE_nil0 ?_
      refine pn_ret ?_
      exact pn_doneS [] rfl rfl ⟨(congrArg (Value.int .i64) (chkE_T (okK1 hk1) rfl hc19)), rfl⟩ (fun _ => Nat.zero_le _) (fun _ he => nomatch he)
  · refine TE_q rfl rfl (RD.move rfl) rfl ?_
    refine TE_q rfl rfl (RD.extract rfl rfl) rfl ?_
    refine TE_q rfl rfl (RD.extract rfl rfl) rfl ?_
    refine TE_q rfl rfl (RD.assign rfl) rfl ?_
    refine TE_q rfl rfl (RD.assign rfl) rfl ?_
    refine TE_nil0 ?_
    refine pn_seq ?_
    refine pn_seq ?_
    refine pn_drawG [10] [] ((b1, .cells (objV x xd xe xp).cells 30 (0, 0)) :: HX) rfl rfl (by kernel_rfl) (fun a => by simp -failIfUnchanged <;> omega) ?_
    refine TE_q rfl rfl (RD.move rfl) rfl ?_
    refine TE_q rfl rfl (RD.as (v := .bool false) (RD.not rfl) rfl) rfl ?_
    refine TE_q rfl rfl (RD.move rfl) rfl ?_
    refine TE_gq rfl rfl rfl rfl (RD.move rfl) rfl ?_
    refine TE_invM _ [] [] HX inv_tree_may rfl rfl ⟨_, rfl, rfl⟩ rfl rfl rfl own0 (fun a => by simp -failIfUnchanged <;> omega) (fun w hw => c_treeMay x xd xe xp HX w (hbxd.mono (fun _ hw => hw.sp (fun a => by simp -failIfUnchanged <;> omega))) (hbxe.mono (fun _ hw => hw.sp (fun a => by simp -failIfUnchanged <;> omega))) (hbxp.mono (fun _ hw => hw.sp (fun a => by simp -failIfUnchanged <;> omega))) hox (hw.sp (fun a => by simp -failIfUnchanged <;> omega))) (fun a => by simp -failIfUnchanged <;> omega) ?_
    rintro v20 H21 ⟨rfl, rfl⟩ -
    refine TE_sp [] (fun a => by simp -failIfUnchanged <;> omega) ?_
    refine TE_gq rfl rfl rfl rfl (RD.not rfl) rfl ?_
    refine TE_q rfl rfl (RD.pickF rfl rfl) rfl ?_
    refine TE_q rfl rfl (RD.move rfl) rfl ?_
    refine TE_join (σ := Unit) (fun _ => [(23, .bool ((!(treeB x.ents)) || (!(obSame (⟨x.k, [], x.ents, (fun _ => 0), [], (⟨0, (fun _ => 0)⟩ : Lnk), ⟨#[]⟩⟩ : Ob) x))))]) (fun _ => ((b1, .cells (objV x xd xe xp).cells 30 (0, 0)) :: HX)) (fun _ => True) ?_ ?_
    · refine TE_bool (fun hf22 => ?_) (fun hf22 => ?_)
      · refine TE_s rfl rfl rfl rfl rfl ?_
        refine TE_s rfl rfl rfl rfl rfl ?_
        refine TE_s rfl rfl rfl rfl rfl ?_
        refine TE_s rfl rfl rfl rfl rfl ?_
        refine TE_s rfl rfl rfl rfl rfl ?_
        refine TE_q rfl rfl (RD.pickT rfl rfl) rfl ?_
        refine TE_nil ?_
        exact pn_give () trivial ⟨congrArg (fun b => some (Value.bool b)) (by first | (simp [hf22]; done) | (simp only [hf22]; rfl)), trivial⟩ (fun _ hw => hw.sp (fun a => by simp -failIfUnchanged <;> omega))
      · refine TE_gq rfl rfl rfl rfl (RD.move rfl) rfl ?_
        refine TE_invM _ [] [] HX inv_tree_bare rfl rfl ⟨_, rfl, rfl⟩ rfl rfl rfl own0 (fun a => by simp -failIfUnchanged <;> omega) (fun w hw => c_treeBare x xd xe xp HX w (hbxd.mono (fun _ hw => hw.sp (fun a => by simp -failIfUnchanged <;> omega))) (hbxe.mono (fun _ hw => hw.sp (fun a => by simp -failIfUnchanged <;> omega))) (hbxp.mono (fun _ hw => hw.sp (fun a => by simp -failIfUnchanged <;> omega))) hox (hw.sp (fun a => by simp -failIfUnchanged <;> omega))) (fun a => by simp -failIfUnchanged <;> omega) ?_
        rintro v23 H24 ⟨rfl, rfl⟩ -
        refine TE_sp [] (fun a => by simp -failIfUnchanged <;> omega) ?_
        refine TE_gq rfl rfl rfl rfl (RD.loadA (i := 0) Try.isAgg30 Try.sizeOf30 rfl rfl (Nat.le_of_ble_eq_true rfl) (obj_all _ _ _ _)) rfl ?_
        refine TE_callG _ HX rfl rfl ⟨_, rfl, rfl⟩ Try.call10 rfl rfl rfl (fun w hw => c_obSame (⟨x.k, [], x.ents, (fun _ => 0), [], (⟨0, (fun _ => 0)⟩ : Lnk), ⟨#[]⟩⟩ : Ob) (.slice none 0 0) xe (.slice none 0 0) x xd xe xp HX w (.inl ⟨rfl, rfl⟩) (hbxe.mono (fun _ hw => hw.sp (fun a => by simp -failIfUnchanged <;> omega))) Rdx.nil (hbxd.mono (fun _ hw => hw.sp (fun a => by simp -failIfUnchanged <;> omega))) (hbxe.mono (fun _ hw => hw.sp (fun a => by simp -failIfUnchanged <;> omega))) (hbxp.mono (fun _ hw => hw.sp (fun a => by simp -failIfUnchanged <;> omega))) ⟨(by first | omega | (dsimp only [List.length_nil]; omega) | simp), (by first | omega | (dsimp only [List.length_nil]; omega) | simp)⟩ ⟨(by first | omega | (dsimp only [List.length_nil]; omega) | simp), (by first | omega | (dsimp only [List.length_nil]; omega) | simp)⟩ (hw.sp (fun a => by simp -failIfUnchanged <;> omega))) (fun a => by simp -failIfUnchanged <;> omega) ?_
        rintro v25 H26 ⟨rfl, rfl⟩ -
        refine TE_gq rfl rfl rfl rfl (RD.not rfl) rfl ?_
        refine TE_q rfl rfl (RD.pickF rfl rfl) rfl ?_
        refine TE_nil ?_
        exact pn_give () trivial ⟨congrArg (fun b => some (Value.bool b)) (by first | (simp [hf22]; done) | (simp only [hf22]; rfl)), trivial⟩ (fun _ hw => hw.sp (fun a => by simp -failIfUnchanged <;> omega))
    rintro _ -
    refine pn_cond rfl (fun hc27 => ?_) (fun hc27 => ?_)
    · refine pn_seq ?_
      refine pn_plainG [] [] rfl (fun a => by simp -failIfUnchanged <;> omega) ?_
      refine TE_q rfl rfl (RD.assign rfl) rfl ?_
      refine TE_nil0 ?_
      refine pn_ret ?_
      exact pn_doneS [] rfl rfl ⟨(congrArg (Value.int .i64) (chkE_F (okK2 hk2) rfl hc27)), rfl⟩ (fun _ => Nat.zero_le _) (fun _ he => nomatch he)
    · refine pn_skip ?_
      refine pn_seq ?_
      refine pn_plainG [] [] rfl (fun a => by simp -failIfUnchanged <;> omega) ?_
      refine TE_q rfl rfl (RD.assign rfl) rfl ?_
      refine TE_nil0 ?_
      refine pn_ret ?_
      exact pn_doneS [] rfl rfl ⟨(congrArg (Value.int .i64) (chkE_T (okK2 hk2) rfl hc27)), rfl⟩ (fun _ => Nat.zero_le _) (fun _ he => nomatch he)
  · refine TE_q rfl rfl (RD.move rfl) rfl ?_
    refine TE_q rfl rfl (RD.extract rfl rfl) rfl ?_
    refine TE_q rfl rfl (RD.extract rfl rfl) rfl ?_
    refine TE_q rfl rfl (RD.assign rfl) rfl ?_
    refine TE_q rfl rfl (RD.assign rfl) rfl ?_
    refine TE_nil0 ?_
    refine pn_seq ?_
    refine pn_seq ?_
    refine pn_drawG [10] [] ((b1, .cells (objV x xd xe xp).cells 30 (0, 0)) :: HX) rfl rfl (by kernel_rfl) (fun a => by simp -failIfUnchanged <;> omega) ?_
    refine TE_q rfl rfl (RD.move rfl) rfl ?_
    refine TE_q rfl rfl (RD.as (v := .bool false) (RD.not rfl) rfl) rfl ?_
    refine TE_q rfl rfl (RD.move rfl) rfl ?_
    refine TE_gq rfl rfl rfl rfl (RD.move rfl) rfl ?_
    refine TE_invM _ [] [] HX inv_commit_may rfl rfl ⟨_, rfl, rfl⟩ rfl rfl rfl own0 (fun a => by simp -failIfUnchanged <;> omega) (fun w hw => c_commitMay x xd xe xp HX w (hbxd.mono (fun _ hw => hw.sp (fun a => by simp -failIfUnchanged <;> omega))) (hbxe.mono (fun _ hw => hw.sp (fun a => by simp -failIfUnchanged <;> omega))) (hbxp.mono (fun _ hw => hw.sp (fun a => by simp -failIfUnchanged <;> omega))) hox (hw.sp (fun a => by simp -failIfUnchanged <;> omega))) (fun a => by simp -failIfUnchanged <;> omega) ?_
    rintro v28 H29 ⟨rfl, rfl⟩ -
    refine TE_sp [] (fun a => by simp -failIfUnchanged <;> omega) ?_
    refine TE_gq rfl rfl rfl rfl (RD.not rfl) rfl ?_
    refine TE_q rfl rfl (RD.pickF rfl rfl) rfl ?_
    refine TE_q rfl rfl (RD.move rfl) rfl ?_
    refine TE_join (σ := Unit) (fun _ => [(23, .bool ((!((parsB x.pars) && (decide ((x.m.size : Int) ≤ 200)))) || (!(obSame (⟨x.k, [], [], x.t, x.pars, (⟨0, (fun _ => 0)⟩ : Lnk), x.m⟩ : Ob) x))))]) (fun _ => ((b1, .cells (objV x xd xe xp).cells 30 (0, 0)) :: HX)) (fun _ => True) ?_ ?_
    · refine TE_bool (fun hf30 => ?_) (fun hf30 => ?_)
      · refine TE_s rfl rfl rfl rfl rfl ?_
        refine TE_s rfl rfl rfl rfl rfl ?_
        refine TE_s rfl rfl rfl rfl rfl ?_
        refine TE_s rfl rfl rfl rfl rfl ?_
        refine TE_s rfl rfl rfl rfl rfl ?_
        refine TE_q rfl rfl (RD.pickT rfl rfl) rfl ?_
        refine TE_nil ?_
        exact pn_give () trivial ⟨congrArg (fun b => some (Value.bool b)) (by first | (simp [hf30]; done) | (simp only [hf30]; rfl)), trivial⟩ (fun _ hw => hw.sp (fun a => by simp -failIfUnchanged <;> omega))
      · refine TE_gq rfl rfl rfl rfl (RD.move rfl) rfl ?_
        refine TE_invM _ [] [] HX inv_commit_bare rfl rfl ⟨_, rfl, rfl⟩ rfl rfl rfl own0 (fun a => by simp -failIfUnchanged <;> omega) (fun w hw => c_commitBare x xd xe xp HX w (hbxd.mono (fun _ hw => hw.sp (fun a => by simp -failIfUnchanged <;> omega))) (hbxe.mono (fun _ hw => hw.sp (fun a => by simp -failIfUnchanged <;> omega))) (hbxp.mono (fun _ hw => hw.sp (fun a => by simp -failIfUnchanged <;> omega))) hox (hw.sp (fun a => by simp -failIfUnchanged <;> omega))) (fun a => by simp -failIfUnchanged <;> omega) ?_
        rintro v31 H32 ⟨rfl, rfl⟩ -
        refine TE_sp [] (fun a => by simp -failIfUnchanged <;> omega) ?_
        refine TE_gq rfl rfl rfl rfl (RD.loadA (i := 0) Try.isAgg30 Try.sizeOf30 rfl rfl (Nat.le_of_ble_eq_true rfl) (obj_all _ _ _ _)) rfl ?_
        refine TE_callG _ HX rfl rfl ⟨_, rfl, rfl⟩ Try.call10 rfl rfl rfl (fun w hw => c_obSame (⟨x.k, [], [], x.t, x.pars, (⟨0, (fun _ => 0)⟩ : Lnk), x.m⟩ : Ob) (.slice none 0 0) (.slice none 0 0) xp x xd xe xp HX w (.inl ⟨rfl, rfl⟩) Rdx.nil (hbxp.mono (fun _ hw => hw.sp (fun a => by simp -failIfUnchanged <;> omega))) (hbxd.mono (fun _ hw => hw.sp (fun a => by simp -failIfUnchanged <;> omega))) (hbxe.mono (fun _ hw => hw.sp (fun a => by simp -failIfUnchanged <;> omega))) (hbxp.mono (fun _ hw => hw.sp (fun a => by simp -failIfUnchanged <;> omega))) ⟨(by first | omega | (dsimp only [List.length_nil]; omega) | simp), (by first | omega | (dsimp only [List.length_nil]; omega) | simp)⟩ ⟨(by first | omega | (dsimp only [List.length_nil]; omega) | simp), (by first | omega | (dsimp only [List.length_nil]; omega) | simp)⟩ (hw.sp (fun a => by simp -failIfUnchanged <;> omega))) (fun a => by simp -failIfUnchanged <;> omega) ?_
        rintro v33 H34 ⟨rfl, rfl⟩ -
        refine TE_gq rfl rfl rfl rfl (RD.not rfl) rfl ?_
        refine TE_q rfl rfl (RD.pickF rfl rfl) rfl ?_
        refine TE_nil ?_
        exact pn_give () trivial ⟨congrArg (fun b => some (Value.bool b)) (by first | (simp [hf30]; done) | (simp only [hf30]; rfl)), trivial⟩ (fun _ hw => hw.sp (fun a => by simp -failIfUnchanged <;> omega))
    rintro _ -
    refine pn_cond rfl (fun hc35 => ?_) (fun hc35 => ?_)
    · refine pn_seq ?_
      refine pn_plainG [] [] rfl (fun a => by simp -failIfUnchanged <;> omega) ?_
      refine TE_q rfl rfl (RD.assign rfl) rfl ?_
      refine TE_nil0 ?_
      refine pn_ret ?_
      exact pn_doneS [] rfl rfl ⟨(congrArg (Value.int .i64) (chkE_F (okK3 hk3) rfl hc35)), rfl⟩ (fun _ => Nat.zero_le _) (fun _ he => nomatch he)
    · refine pn_skip ?_
      refine pn_seq ?_
      refine pn_plainG [] [] rfl (fun a => by simp -failIfUnchanged <;> omega) ?_
      refine TE_q rfl rfl (RD.assign rfl) rfl ?_
      refine TE_nil0 ?_
      refine pn_ret ?_
      exact pn_doneS [] rfl rfl ⟨(congrArg (Value.int .i64) (chkE_T (okK3 hk3) rfl hc35)), rfl⟩ (fun _ => Nat.zero_le _) (fun _ he => nomatch he)
  · refine TE_q rfl rfl (RD.move rfl) rfl ?_
    refine TE_q rfl rfl (RD.extract rfl rfl) rfl ?_
    refine TE_q rfl rfl (RD.extract rfl rfl) rfl ?_
    refine TE_q rfl rfl (RD.assign rfl) rfl ?_
    refine TE_q rfl rfl (RD.assign rfl) rfl ?_
    refine TE_nil0 ?_
    refine pn_seq ?_
    refine pn_seq ?_
    refine pn_drawG [10] [] ((b1, .cells (objV x xd xe xp).cells 30 (0, 0)) :: HX) rfl rfl (by kernel_rfl) (fun a => by simp -failIfUnchanged <;> omega) ?_
    refine TE_q rfl rfl (RD.move rfl) rfl ?_
    refine TE_q rfl rfl (RD.as (v := .bool false) (RD.not rfl) rfl) rfl ?_
    refine TE_q rfl rfl (RD.move rfl) rfl ?_
    refine TE_gq rfl rfl rfl rfl (RD.move rfl) rfl ?_
    refine TE_invM _ [] [] HX inv_tag_may rfl rfl ⟨_, rfl, rfl⟩ rfl rfl rfl own0 (fun a => by simp -failIfUnchanged <;> omega) (fun w hw => c_tagMay x xd xe xp HX w (hbxd.mono (fun _ hw => hw.sp (fun a => by simp -failIfUnchanged <;> omega))) (hbxe.mono (fun _ hw => hw.sp (fun a => by simp -failIfUnchanged <;> omega))) (hbxp.mono (fun _ hw => hw.sp (fun a => by simp -failIfUnchanged <;> omega))) hox (hw.sp (fun a => by simp -failIfUnchanged <;> omega))) (fun a => by simp -failIfUnchanged <;> omega) ?_
    rintro v36 H37 ⟨rfl, rfl⟩ -
    refine TE_sp [] (fun a => by simp -failIfUnchanged <;> omega) ?_
    refine TE_gq rfl rfl rfl rfl (RD.not rfl) rfl ?_
    refine TE_q rfl rfl (RD.pickF rfl rfl) rfl ?_
    refine TE_q rfl rfl (RD.move rfl) rfl ?_
    refine TE_join (σ := Unit) (fun _ => [(23, .bool ((!(((decide (1 ≤ x.tg.k)) && (decide (x.tg.k ≤ 4))) && (decide ((x.m.size : Int) ≤ 200)))) || (!(obSame (⟨x.k, [], [], (fun _ => 0), [], x.tg, x.m⟩ : Ob) x))))]) (fun _ => ((b1, .cells (objV x xd xe xp).cells 30 (0, 0)) :: HX)) (fun _ => True) ?_ ?_
    · refine TE_bool (fun hf38 => ?_) (fun hf38 => ?_)
      · refine TE_s rfl rfl rfl rfl rfl ?_
        refine TE_s rfl rfl rfl rfl rfl ?_
        refine TE_s rfl rfl rfl rfl rfl ?_
        refine TE_s rfl rfl rfl rfl rfl ?_
        refine TE_s rfl rfl rfl rfl rfl ?_
        refine TE_q rfl rfl (RD.pickT rfl rfl) rfl ?_
        refine TE_nil ?_
        exact pn_give () trivial ⟨congrArg (fun b => some (Value.bool b)) (by first | (simp [hf38]; done) | (simp only [hf38]; rfl)), trivial⟩ (fun _ hw => hw.sp (fun a => by simp -failIfUnchanged <;> omega))
      · refine TE_gq rfl rfl rfl rfl (RD.move rfl) rfl ?_
        refine TE_invM _ [] [] HX inv_tag_bare rfl rfl ⟨_, rfl, rfl⟩ rfl rfl rfl own0 (fun a => by simp -failIfUnchanged <;> omega) (fun w hw => c_tagBare x xd xe xp HX w (hbxd.mono (fun _ hw => hw.sp (fun a => by simp -failIfUnchanged <;> omega))) (hbxe.mono (fun _ hw => hw.sp (fun a => by simp -failIfUnchanged <;> omega))) (hbxp.mono (fun _ hw => hw.sp (fun a => by simp -failIfUnchanged <;> omega))) hox (hw.sp (fun a => by simp -failIfUnchanged <;> omega))) (fun a => by simp -failIfUnchanged <;> omega) ?_
        rintro v39 H40 ⟨rfl, rfl⟩ -
        refine TE_sp [] (fun a => by simp -failIfUnchanged <;> omega) ?_
        refine TE_gq rfl rfl rfl rfl (RD.loadA (i := 0) Try.isAgg30 Try.sizeOf30 rfl rfl (Nat.le_of_ble_eq_true rfl) (obj_all _ _ _ _)) rfl ?_
        refine TE_callG _ HX rfl rfl ⟨_, rfl, rfl⟩ Try.call10 rfl rfl rfl (fun w hw => c_obSame (⟨x.k, [], [], (fun _ => 0), [], x.tg, x.m⟩ : Ob) (.slice none 0 0) (.slice none 0 0) (.slice none 0 0) x xd xe xp HX w (.inl ⟨rfl, rfl⟩) Rdx.nil Rdx.nil (hbxd.mono (fun _ hw => hw.sp (fun a => by simp -failIfUnchanged <;> omega))) (hbxe.mono (fun _ hw => hw.sp (fun a => by simp -failIfUnchanged <;> omega))) (hbxp.mono (fun _ hw => hw.sp (fun a => by simp -failIfUnchanged <;> omega))) ⟨(by first | omega | (dsimp only [List.length_nil]; omega) | simp), (by first | omega | (dsimp only [List.length_nil]; omega) | simp)⟩ ⟨(by first | omega | (dsimp only [List.length_nil]; omega) | simp), (by first | omega | (dsimp only [List.length_nil]; omega) | simp)⟩ (hw.sp (fun a => by simp -failIfUnchanged <;> omega))) (fun a => by simp -failIfUnchanged <;> omega) ?_
        rintro v41 H42 ⟨rfl, rfl⟩ -
        refine TE_gq rfl rfl rfl rfl (RD.not rfl) rfl ?_
        refine TE_q rfl rfl (RD.pickF rfl rfl) rfl ?_
        refine TE_nil ?_
        exact pn_give () trivial ⟨congrArg (fun b => some (Value.bool b)) (by first | (simp [hf38]; done) | (simp only [hf38]; rfl)), trivial⟩ (fun _ hw => hw.sp (fun a => by simp -failIfUnchanged <;> omega))
    rintro _ -
    refine pn_cond rfl (fun hc43 => ?_) (fun hc43 => ?_)
    · refine pn_seq ?_
      refine pn_plainG [] [] rfl (fun a => by simp -failIfUnchanged <;> omega) ?_
      refine TE_q rfl rfl (RD.assign rfl) rfl ?_
      refine TE_nil0 ?_
      refine pn_ret ?_
      exact pn_doneS [] rfl rfl ⟨(congrArg (Value.int .i64) (chkE_F (okK4 hk4) rfl hc43)), rfl⟩ (fun _ => Nat.zero_le _) (fun _ he => nomatch he)
    · refine pn_skip ?_
      refine pn_seq ?_
      refine pn_plainG [] [] rfl (fun a => by simp -failIfUnchanged <;> omega) ?_
      refine TE_q rfl rfl (RD.assign rfl) rfl ?_
      refine TE_nil0 ?_
      refine pn_ret ?_
      exact pn_doneS [] rfl rfl ⟨(congrArg (Value.int .i64) (chkE_T (okK4 hk4) rfl hc43)), rfl⟩ (fun _ => Nat.zero_le _) (fun _ he => nomatch he)
  · refine TE_q rfl rfl (RD.move rfl) rfl ?_
    refine TE_q rfl rfl (RD.extract rfl rfl) rfl ?_
    refine TE_q rfl rfl (RD.extract rfl rfl) rfl ?_
    refine TE_q rfl rfl (RD.assign rfl) rfl ?_
    refine TE_q rfl rfl (RD.assign rfl) rfl ?_
    refine TE_nil0 ?_
    refine pn_seq ?_
    refine pn_seq ?_
    refine pn_drawG [10] [] ((b1, .cells (objV x xd xe xp).cells 30 (0, 0)) :: HX) rfl rfl (by kernel_rfl) (fun a => by simp -failIfUnchanged <;> omega) ?_
    refine TE_q rfl rfl (RD.move rfl) rfl ?_
    refine TE_q rfl rfl (RD.as (v := .bool true) (RD.not rfl) rfl) rfl ?_
    refine TE_q rfl rfl (RD.move rfl) rfl ?_
    refine TE_s rfl rfl rfl rfl rfl ?_
    refine TE_s rfl rfl rfl rfl rfl ?_
    refine TE_s rfl rfl rfl rfl rfl ?_
    refine TE_q rfl rfl (RD.pickT rfl rfl) rfl ?_
    refine TE_q rfl rfl (RD.move rfl) rfl ?_
    refine TE_s rfl rfl rfl rfl rfl ?_
    refine TE_s rfl rfl rfl rfl rfl ?_
    refine TE_s rfl rfl rfl rfl rfl ?_
    refine TE_s rfl rfl rfl rfl rfl ?_
    refine TE_s rfl rfl rfl rfl rfl ?_
    refine TE_q rfl rfl (RD.pickT rfl rfl) rfl ?_
    refine TE_nil ?_
    refine pn_condT rfl ?_
    refine pn_seq ?_
    refine pn_plainG [] [] rfl (fun a => by simp -failIfUnchanged <;> omega) ?_
    refine TE_q rfl rfl (RD.assign rfl) rfl ?_
    refine TE_nil0 ?_
    refine pn_ret ?_
    exact pn_doneS [] rfl rfl ⟨(congrArg (Value.int .i64) (chkF (chk0 hk5 hk6 hk7 hk8) rfl)), rfl⟩ (fun _ => Nat.zero_le _) (fun _ he => nomatch he)

end Go.Proofs.Ytloljpefdecmhaa

namespace Go.Proofs.Ytloljpefdecmhaa
open Go Go.Mv
set_option maxRecDepth 8000
attribute [simp] entsL_len parsL_len
def pf (P : List Lnk) : List (Nat → Int) → List Lnk
  | [] => P
  | p :: l => pf (P ++ [⟨3, p⟩]) l
@[simp] theorem pf_nil (P : List Lnk) : pf P [] = P := rfl
theorem pf_eq : ∀ (P : List Lnk) (l : List (Nat → Int)), pf P l = P ++ parsL l
  | P, [] => by simp
  | P, p :: l => by rw [pf, pf_eq]; simp [parsL]
@[simp] theorem pf_len (P : List Lnk) (l : List (Nat → Int)) : (pf P l).length = P.length + l.length := by rw [pf_eq]; simp
theorem c_obLinks (x : Ob) (xd : Value) (xe : Value) (xp : Value) (HX : Mem) (w : World) (hbxd : Rdb HX xd x.data) (hbxe : Rdx 34 (entC) HX xe x.ents) (hbxp : Rdx 32 (idC) HX xp x.pars) (hox : ObOk x) (hH : Hp HX w) : Calls Try.prog 7 #[objV x xd xe xp] w (Ret w [] fun v H1 => ∃ st, BldOk 33 (lnkC) (linksL x) st ∧ v = bldVx (linksL x) st ∧ H1 = bldMx 28 (lnkC) (linksL x) st) := by
  have hw1 := hox.d; have hw2 := hox.e; have hw3 := hox.p; have hw4 := hox.m; have hwe := hox.en
  refine fn_enter (args := [_]) Try.func7 rfl Try.ntmps7 rfl hH ?_
  refine pn_seq ?_
  refine pn_plain [] rfl ?_
  refine TE_boxC (objV x xd xe xp).cells rfl rfl rfl trivial rfl fun b1 hb1 => ?_
  refine TE_q rfl rfl (RD.assign rfl) rfl ?_
  refine TE_nil0 ?_
  refine pn_seq ?_
  refine pn_seq ?_
  refine pn_plain [] rfl ?_
  refine TE_l rfl rfl trivial rfl (RD.loadA (i := 0) Try.isAgg30 Try.sizeOf30 rfl rfl (Nat.le_of_ble_eq_true rfl) (obj_all _ _ _ _)) rfl ?_
  refine TE_callG _ HX rfl rfl trivial Try.call14 rfl rfl rfl (fun w hw => c_obCheck x xd xe xp HX w (hbxd.mono (fun _ hw => hw.sp (fun a => by simp -failIfUnchanged <;> omega))) (hbxe.mono (fun _ hw => hw.sp (fun a => by simp -failIfUnchanged <;> omega))) (hbxp.mono (fun _ hw => hw.sp (fun a => by simp -failIfUnchanged <;> omega))) hox (hw.sp (fun a => by simp -failIfUnchanged <;> omega))) (fun a => by simp -failIfUnchanged <;> omega) ?_
  rintro v1 H2 ⟨rfl, rfl⟩ -
  refine TE_q rfl rfl (RD.neq rfl rfl) rfl ?_
  refine TE_nil0 ?_
  refine pn_condN rfl (fun hc3 => ?_) (fun hc3 => ?_)
  · refine pn_seq ?_
    refine pn_plainG [] [] rfl (fun a => by simp -failIfUnchanged <;> omega) ?_
    refine TE_q rfl rfl (RD.assign rfl) rfl ?_
    refine TE_nil0 ?_
    refine pn_ret ?_
    exact pn_doneS [] rfl rfl ⟨none, (show linksL x = [] from (by simp [linksL, err1 hc3])), rfl, rfl⟩ (fun _ => Nat.zero_le _) (fun _ he => nomatch he)
  · refine pn_skip ?_
    refine pn_seq ?_
    refine pn_plain [] rfl ?_
    refine TE_l rfl rfl trivial rfl (RD.loadA (i := 0) Try.isAgg30 Try.sizeOf30 rfl rfl (Nat.le_of_ble_eq_true rfl) (obj_all _ _ _ _)) rfl ?_
    refine TE_callG _ HX rfl rfl trivial Try.call16 rfl rfl rfl (fun w hw => c_of7 x xd xe xp HX w (hbxd.mono (fun _ hw => hw.sp (fun a => by simp -failIfUnchanged <;> omega))) (hbxe.mono (fun _ hw => hw.sp (fun a => by simp -failIfUnchanged <;> omega))) (hbxp.mono (fun _ hw => hw.sp (fun a => by simp -failIfUnchanged <;> omega))) hox (hw.sp (fun a => by simp -failIfUnchanged <;> omega))) (fun a => by simp -failIfUnchanged <;> omega) ?_
    rintro v12 H13 (⟨hk4, rfl, rfl⟩ | ⟨hk5, rfl, rfl⟩ | ⟨hk6, rfl, rfl⟩ | ⟨hk7, rfl, rfl⟩ | ⟨⟨⟨⟨hk8, hk9⟩, hk10⟩, hk11⟩, rfl, rfl⟩) hX14
    · refine TE_q rfl rfl (RD.move rfl) rfl ?_
      refine TE_q rfl rfl (RD.extract rfl rfl) rfl ?_
      refine TE_q rfl rfl (RD.extract rfl rfl) rfl ?_
      refine TE_q rfl rfl (RD.assign rfl) rfl ?_
      refine TE_q rfl rfl (RD.assign rfl) rfl ?_
      refine TE_nil0 ?_
      refine pn_seq ?_
      refine pn_plainG [] HX rfl (fun a => by simp -failIfUnchanged <;> omega) ?_
      refine TE_q rfl rfl (RD.move rfl) rfl ?_
      refine TE_invM _ [] HX HX inv_blob_links rfl rfl trivial rfl rfl rfl own0 (fun a => by simp -failIfUnchanged <;> omega) (fun w hw => c_blobLinks x xd xe xp HX w (hbxd.mono (fun _ hw => hw.sp (fun a => by simp -failIfUnchanged <;> omega))) (hbxe.mono (fun _ hw => hw.sp (fun a => by simp -failIfUnchanged <;> omega))) (hbxp.mono (fun _ hw => hw.sp (fun a => by simp -failIfUnchanged <;> omega))) hox (hw.sp (fun a => by simp -failIfUnchanged <;> omega))) (fun a => by simp -failIfUnchanged <;> omega) ?_
      rintro v19 H20 ⟨st15, hbo16, rfl, rfl⟩ hX17
      have hRD18 : Rdx 33 (lnkC) (bldMx 28 (lnkC) ([] : List Lnk) st15) (bldVx ([] : List Lnk) st15) ([] : List Lnk) := hbo16.rdx (u := 28) lnkC_len
      refine TE_sp ((bldMx 28 (lnkC) ([] : List Lnk) st15) ++ HX) (fun a => by simp -failIfUnchanged <;> omega) ?_
      refine TE_q rfl rfl (RD.assign rfl) rfl ?_
      refine TE_nil0 ?_
      refine pn_ret ?_
      have he21 : ([] : List Lnk) = linksL x := (by simp [linksL, lnksL, err0 hc3, hk4, entsL, parsL])
      exact pn_doneS (bldMx 28 (lnkC) ([] : List Lnk) st15) rfl rfl ⟨st15, (by rw [← he21]; exact hbo16), (by rw [← he21]; rfl), (by rw [← he21])⟩ (fun a => by simp -failIfUnchanged <;> omega) hX17
    · refine TE_q rfl rfl (RD.move rfl) rfl ?_
      refine TE_q rfl rfl (RD.extract rfl rfl) rfl ?_
      refine TE_q rfl rfl (RD.extract rfl rfl) rfl ?_
      refine TE_q rfl rfl (RD.assign rfl) rfl ?_
      refine TE_q rfl rfl (RD.assign rfl) rfl ?_
      refine TE_nil0 ?_
      refine pn_seq ?_
      refine pn_plainG [] HX rfl (fun a => by simp -failIfUnchanged <;> omega) ?_
      refine TE_q rfl rfl (RD.move rfl) rfl ?_
      refine TE_invM _ [] HX HX inv_tree_links rfl rfl trivial rfl rfl rfl own0 (fun a => by simp -failIfUnchanged <;> omega) (fun w hw => c_treeLinks x xd xe xp HX w (hbxd.mono (fun _ hw => hw.sp (fun a => by simp -failIfUnchanged <;> omega))) (hbxe.mono (fun _ hw => hw.sp (fun a => by simp -failIfUnchanged <;> omega))) (hbxp.mono (fun _ hw => hw.sp (fun a => by simp -failIfUnchanged <;> omega))) hox (hw.sp (fun a => by simp -failIfUnchanged <;> omega))) (fun a => by simp -failIfUnchanged <;> omega) ?_
      rintro v26 H27 ⟨st22, hbo23, rfl, rfl⟩ hX24
      have hRD25 : Rdx 33 (lnkC) (bldMx 28 (lnkC) (entsL x.ents) st22) (bldVx (entsL x.ents) st22) (entsL x.ents) := hbo23.rdx (u := 28) lnkC_len
      refine TE_sp ((bldMx 28 (lnkC) (entsL x.ents) st22) ++ HX) (fun a => by simp -failIfUnchanged <;> omega) ?_
      refine TE_q rfl rfl (RD.assign rfl) rfl ?_
      refine TE_nil0 ?_
      refine pn_ret ?_
      have he28 : (entsL x.ents) = linksL x := (by simp [linksL, lnksL, err0 hc3, hk5, entsL, parsL])
      exact pn_doneS (bldMx 28 (lnkC) (entsL x.ents) st22) rfl rfl ⟨st22, (by rw [← he28]; exact hbo23), (by rw [← he28]; rfl), (by rw [← he28])⟩ (fun a => by simp -failIfUnchanged <;> omega) hX24
    · refine TE_q rfl rfl (RD.move rfl) rfl ?_
      refine TE_q rfl rfl (RD.extract rfl rfl) rfl ?_
      refine TE_q rfl rfl (RD.extract rfl rfl) rfl ?_
      refine TE_q rfl rfl (RD.assign rfl) rfl ?_
      refine TE_q rfl rfl (RD.assign rfl) rfl ?_
      refine TE_nil0 ?_
      refine pn_seq ?_
      refine pn_plainG [] HX rfl (fun a => by simp -failIfUnchanged <;> omega) ?_
      refine TE_q rfl rfl (RD.move rfl) rfl ?_
      refine TE_invM _ [] HX HX inv_commit_links rfl rfl trivial rfl rfl rfl own0 (fun a => by simp -failIfUnchanged <;> omega) (fun w hw => c_commitLinks x xd xe xp HX w (hbxd.mono (fun _ hw => hw.sp (fun a => by simp -failIfUnchanged <;> omega))) (hbxe.mono (fun _ hw => hw.sp (fun a => by simp -failIfUnchanged <;> omega))) (hbxp.mono (fun _ hw => hw.sp (fun a => by simp -failIfUnchanged <;> omega))) hox (hw.sp (fun a => by simp -failIfUnchanged <;> omega))) (fun a => by simp -failIfUnchanged <;> omega) ?_
      rintro v33 H34 ⟨st29, hbo30, rfl, rfl⟩ hX31
      have hRD32 : Rdx 33 (lnkC) (bldMx 28 (lnkC) ((⟨2, x.t⟩ : Lnk) :: parsL x.pars) st29) (bldVx ((⟨2, x.t⟩ : Lnk) :: parsL x.pars) st29) ((⟨2, x.t⟩ : Lnk) :: parsL x.pars) := hbo30.rdx (u := 28) lnkC_len
      refine TE_sp ((bldMx 28 (lnkC) ((⟨2, x.t⟩ : Lnk) :: parsL x.pars) st29) ++ HX) (fun a => by simp -failIfUnchanged <;> omega) ?_
      refine TE_q rfl rfl (RD.assign rfl) rfl ?_
      refine TE_nil0 ?_
      refine pn_ret ?_
      have he35 : ((⟨2, x.t⟩ : Lnk) :: parsL x.pars) = linksL x := (by simp [linksL, lnksL, err0 hc3, hk6, entsL, parsL])
      exact pn_doneS (bldMx 28 (lnkC) ((⟨2, x.t⟩ : Lnk) :: parsL x.pars) st29) rfl rfl ⟨st29, (by rw [← he35]; exact hbo30), (by rw [← he35]; rfl), (by rw [← he35])⟩ (fun a => by simp -failIfUnchanged <;> omega) hX31
    · refine TE_q rfl rfl (RD.move rfl) rfl ?_
      refine TE_q rfl rfl (RD.extract rfl rfl) rfl ?_
      refine TE_q rfl rfl (RD.extract rfl rfl) rfl ?_
      refine TE_q rfl rfl (RD.assign rfl) rfl ?_
      refine TE_q rfl rfl (RD.assign rfl) rfl ?_
      refine TE_nil0 ?_
      refine pn_seq ?_
      refine pn_plainG [] HX rfl (fun a => by simp -failIfUnchanged <;> omega) ?_
      refine TE_q rfl rfl (RD.move rfl) rfl ?_
      refine TE_invM _ [] HX HX inv_tag_links rfl rfl trivial rfl rfl rfl own0 (fun a => by simp -failIfUnchanged <;> omega) (fun w hw => c_tagLinks x xd xe xp HX w (hbxd.mono (fun _ hw => hw.sp (fun a => by simp -failIfUnchanged <;> omega))) (hbxe.mono (fun _ hw => hw.sp (fun a => by simp -failIfUnchanged <;> omega))) (hbxp.mono (fun _ hw => hw.sp (fun a => by simp -failIfUnchanged <;> omega))) hox (hw.sp (fun a => by simp -failIfUnchanged <;> omega))) (fun a => by simp -failIfUnchanged <;> omega) ?_
      rintro v40 H41 ⟨st36, hbo37, rfl, rfl⟩ hX38
      have hRD39 : Rdx 33 (lnkC) (bldMx 28 (lnkC) [x.tg] st36) (bldVx [x.tg] st36) [x.tg] := hbo37.rdx (u := 28) lnkC_len
      refine TE_sp ((bldMx 28 (lnkC) [x.tg] st36) ++ HX) (fun a => by simp -failIfUnchanged <;> omega) ?_
      refine TE_q rfl rfl (RD.assign rfl) rfl ?_
      refine TE_nil0 ?_
      refine pn_ret ?_
      have he42 : [x.tg] = linksL x := (by simp [linksL, lnksL, err0 hc3, hk7, entsL, parsL])
      exact pn_doneS (bldMx 28 (lnkC) [x.tg] st36) rfl rfl ⟨st36, (by rw [← he42]; exact hbo37), (by rw [← he42]; rfl), (by rw [← he42])⟩ (fun a => by simp -failIfUnchanged <;> omega) hX38
    · exact absurd ((chk0 hk8 hk9 hk10 hk11).symm.trans (err0 hc3)) (by decide)

end Go.Proofs.Ytloljpefdecmhaa

namespace Go.Proofs.Ytloljpefdecmhaa
open Go Go.Mv
set_option maxRecDepth 8000
theorem lnksL_len (x : Ob) (h : ObOk x) : (linksL x).length ≤ 1000 := by
  have h1 := h.e; have h2 := h.p
  unfold linksL lnksL
  repeat' split
  all_goals simp
  all_goals omega
end Go.Proofs.Ytloljpefdecmhaa

namespace Go.Proofs.Ytloljpefdecmhaa
open Go Go.Mv
open Go.ChangeShapes
set_option maxRecDepth 100000
theorem obj_t_at (x : Ob) (d e p : Value) {j : Nat} (hj : j < 32) : (objV x d e p).cells[3 + j]? = some (.int .u8 (x.t j)) := by
  rcases lt32 hj with hj | ⟨k, hk, rfl⟩
  · rcases lt16 hj with rfl | rfl | rfl | rfl | rfl | rfl | rfl | rfl | rfl | rfl | rfl | rfl | rfl | rfl | rfl | rfl <;> rfl
  · rcases lt16 hk with rfl | rfl | rfl | rfl | rfl | rfl | rfl | rfl | rfl | rfl | rfl | rfl | rfl | rfl | rfl | rfl <;> rfl
theorem obj_g_at (x : Ob) (d e p : Value) {j : Nat} (hj : j < 32) : (objV x d e p).cells[37 + j]? = some (.int .u8 (x.tg.id j)) := by
  rcases lt32 hj with hj | ⟨k, hk, rfl⟩
  · rcases lt16 hj with rfl | rfl | rfl | rfl | rfl | rfl | rfl | rfl | rfl | rfl | rfl | rfl | rfl | rfl | rfl | rfl <;> rfl
  · rcases lt16 hk with rfl | rfl | rfl | rfl | rfl | rfl | rfl | rfl | rfl | rfl | rfl | rfl | rfl | rfl | rfl | rfl <;> rfl

theorem id_atC (f : Nat → Int) {j : Nat} (hj : j < 32) : (idC f)[j]? = some (.int .u8 (f j)) := by
  rcases lt32 hj with hj | ⟨k, hk, rfl⟩
  · rcases lt16 hj with rfl | rfl | rfl | rfl | rfl | rfl | rfl | rfl | rfl | rfl | rfl | rfl | rfl | rfl | rfl | rfl <;> rfl
  · rcases lt16 hk with rfl | rfl | rfl | rfl | rfl | rfl | rfl | rfl | rfl | rfl | rfl | rfl | rfl | rfl | rfl | rfl <;> rfl
theorem ent_atC (e : Ent) {j : Nat} (hj : j < 32) : (entC e)[2 + j]? = some (.int .u8 (e.id j)) := by
  rcases lt32 hj with hj | ⟨k, hk, rfl⟩
  · rcases lt16 hj with rfl | rfl | rfl | rfl | rfl | rfl | rfl | rfl | rfl | rfl | rfl | rfl | rfl | rfl | rfl | rfl <;> rfl
  · rcases lt16 hk with rfl | rfl | rfl | rfl | rfl | rfl | rfl | rfl | rfl | rfl | rfl | rfl | rfl | rfl | rfl | rfl <;> rfl
theorem cellsO_id : Try.prog.cellsOf 25 = 32 := by kernel_rfl
theorem cellsO_u8 : Try.prog.cellsOf 5 = 1 := by kernel_rfl
theorem cellsO_ent : Try.prog.cellsOf 38 = 34 := by kernel_rfl
theorem cellsO_lnk : Try.prog.cellsOf 28 = 33 := by kernel_rfl
theorem cellsO_obj : Try.prog.cellsOf 30 = 70 := by kernel_rfl
section
variable {H : Type} {enc : TypeId × Value → H} {w : World} {base : Nat} {spare : Nat → Bool} {held : Bool} {n : Nat} {cs : List Value} {x : DataW H × List MemPlace}
theorem open_byteT (h : DataW.trod enc Try.prog w base spare held n 5 cs = some x) : ∃ c, cs = byteC c ∧ True := by
  obtain ⟨z, rfl, _, hw⟩ := DataW.trod_int Try.underlying5 h
  have := has_u8 (wf_has hw)
  exact ⟨toB z, by rw [byteC, ← bcell_toB this.1 (by omega)], trivial⟩
def idOf (cs : List Value) : Nat → Int := fun i => bif Nat.blt i 32 then intAt cs.toArray i else 0
theorem idOf_can (cs : List Value) : IdCan (idOf cs) := fun i hi => by
  have : Nat.blt i 32 = false := by rw [← Bool.not_eq_true]; intro h; have := Nat.blt_eq ▸ h; omega
  simp only [idOf, this, cond_false]
theorem idOf_at {z : Int} {j : Nat} (hj : j < 32) (h : cs[j]? = some (.int .u8 z)) : idOf cs j = z := by
  have : Nat.blt j 32 = true := by simpa using hj
  simp only [idOf, this, cond_true, intAt, List.getElem?_toArray, h]
theorem open_idT (h : DataW.trod enc Try.prog w base spare held n 25 cs = some x) : ∃ f, cs = idC f ∧ IdOk f ∧ IdCan f := by
  obtain ⟨hl, ht⟩ := trod_ints Try.underlying25 Try.underlying5 cellsO_u8 h
  rw [cellsO_id] at hl
  refine ⟨idOf cs, ?_, fun i => ?_, idOf_can cs⟩
  · apply List.ext_getElem?
    intro i
    by_cases hi : i < 32
    · obtain ⟨z, hz, _⟩ := ht i hi
      rw [hz, id_atC _ hi, idOf_at hi hz]
    · rw [List.getElem?_eq_none (by omega), List.getElem?_eq_none (by rw [idC_len]; omega)]
  · by_cases hi : i < 32
    · obtain ⟨z, hz, hh⟩ := ht i hi
      rw [idOf_at hi hz]; exact has_u8 hh
    · rw [idOf_can cs i (by omega)]; omega
theorem open_entT (h : DataW.trod enc Try.prog w base spare held n 38 cs = some x) : ∃ e, cs = entC e ∧ IdOk e.id := by
  obtain ⟨hl, hf⟩ := trod_field Try.underlying38 h
  rw [cellsO_ent] at hl
  obtain ⟨m0, y0, h0⟩ := hf 0 _ rfl
  obtain ⟨m1, y1, h1⟩ := hf 1 _ rfl
  obtain ⟨m2, y2, h2⟩ := hf 2 _ rfl
  have h0 : DataW.trod enc Try.prog w base spare held m0 9 ((cs.drop 0).take (Try.prog.cellsOf 9)) = some y0 := h0
  have h1 : DataW.trod enc Try.prog w base spare held m1 3 ((cs.drop 1).take (Try.prog.cellsOf 3)) = some y1 := h1
  have h2 : DataW.trod enc Try.prog w base spare held m2 25 ((cs.drop 2).take (Try.prog.cellsOf 25)) = some y2 := h2
  obtain ⟨s, hs, _, _⟩ := DataW.trod_string Try.underlying9 h0
  obtain ⟨k, hk, _, _⟩ := DataW.trod_int Try.underlying3 h1
  obtain ⟨f, hfe, hok, _⟩ := open_idT h2
  rw [cellsO_id] at hfe
  refine ⟨⟨s, k, f⟩, ?_, hok⟩
  apply List.ext_getElem?
  intro i
  by_cases hi0 : i = 0
  · subst hi0; rw [at0 hs]; rfl
  by_cases hi1 : i = 1
  · subst hi1; rw [at0 hk]; rfl
  by_cases hi : i < 34
  · obtain ⟨j, hj, rfl⟩ : ∃ j, j < 32 ∧ i = 2 + j := ⟨i - 2, by omega, by omega⟩
    rw [ent_atC _ hj, ← id_atC f hj, ← hfe, atj hj]
  · rw [List.getElem?_eq_none (by omega), List.getElem?_eq_none (by rw [entC_len]; omega)]
end
/-- Elements behind a slice that stands in a cell. -/
theorem open_cellL {H : Type} {α : Type} {P : Program} {ec : α → List Value} {sz : Nat} {ok : α → Prop} {t e : TypeId} {enc : TypeId × Value → H} {W : World} {r : Reach} {b0 m : Nat} {v : Value} {y : DataW H × List MemPlace} (ht : P.underlying t = some (.slice e)) (hsz : P.cellsOf e = sz) (hs0 : 0 < sz) (hk : ∀ x, (ec x).length = sz)
    (hel : ∀ n cs x, DataW.trod enc P W 0 (fun _ => true) true n e cs = some x → ∃ a, cs = ec a ∧ ok a) (hc : Cell.okWide P W r b0 t v) (h : DataW.trod enc P W 0 (fun _ => true) true m t [v] = some y) (HZ : Mem) (hH : Hp HZ W) :
    ∃ HA l, Hp (HA ++ HZ) W ∧ Rdx sz ec (HA ++ HZ) v l ∧ (∀ x ∈ l, ok x) ∧ l.length ≤ 9223372036854775807 := by
  have hv : v.cells.toList = [v] := by
    rcases DataW.trod_slice ht h with ⟨hcs, _⟩ | ⟨a, len, cap, elems, rest, m', _, hcs, _⟩
    · obtain rfl := (List.cons.inj hcs).1; rfl
    · obtain rfl := (List.cons.inj hcs).1; rfl
  exact open_list (d := y.1) (p := y.2) ht hsz hs0 hk hel (by simp only [Value.okWide, ht]; exact hc) ⟨m, by rw [hv]; exact h⟩ HZ hH
def obTs : List TypeId := [3, 22, 23] ++ List.replicate 32 5 ++ [26, 3] ++ List.replicate 32 5 ++ [9]
theorem obTs_is : Try.prog.cellTypes Try.prog.depth 30 = some obTs := by kernel_rfl
theorem take1 {l : List Value} {o n : Nat} {v : Value} (hn : n = 1) (h : l[o]? = some v) : (l.drop o).take n = [v] := by
  subst hn
  obtain ⟨hlt, rfl⟩ := List.getElem?_eq_some_iff.1 h
  rw [List.drop_eq_getElem_cons hlt]; rfl
theorem cellsO_b : Try.prog.cellsOf 22 = 1 := by kernel_rfl
theorem cellsO_e : Try.prog.cellsOf 23 = 1 := by kernel_rfl
theorem cellsO_i : Try.prog.cellsOf 26 = 1 := by kernel_rfl
/-- An object that comes in. -/
theorem open_ob {H : Type} {enc : TypeId × Value → H} {W : World} {r : Reach} {b0 : Nat} {v : Value} {d : DataW H} {p : List MemPlace} (hval : Value.okWide Try.prog W r b0 30 v) (h : DataW.Trod enc Try.prog W 0 (fun _ => true) true 30 v d p) (HZ : Mem) (hH : Hp HZ W) :
    ∃ HA x xd xe xp, v = objV x xd xe xp ∧ Hp (HA ++ HZ) W ∧ Rdb (HA ++ HZ) xd x.data ∧ Rdx 34 entC (HA ++ HZ) xe x.ents ∧ Rdx 32 idC (HA ++ HZ) xp x.pars ∧ ObW x := by
  simp only [Value.okWide, Try.underlying30] at hval
  obtain ⟨cs, rfl, hsz, ts, hts, _, hc⟩ := hval
  rw [cellsO_obj] at hsz
  obtain rfl := Option.some.inj (hts.symm.trans obTs_is)
  have hl : obTs.length = 70 := rfl
  rw [hl] at hc
  have cell : ∀ i (hi : i < 70), ∃ v u, cs[i]? = some v ∧ obTs[i]? = some u ∧ Cell.okWide Try.prog W r b0 u v := fun i hi => by
    obtain ⟨u, hu, hk⟩ := hc i (cs[i]'(by omega)) (by simp [hsz, hi])
    rw [Nat.mod_eq_of_lt hi] at hu
    exact ⟨_, u, by simp [hsz, hi], hu, hk⟩
  obtain ⟨n, hn⟩ := h
  have hn : DataW.trod enc Try.prog W 0 (fun _ => true) true n 30 cs.toList = some (d, p) := hn
  obtain ⟨_, hf⟩ := trod_field Try.underlying30 hn
  obtain ⟨m0, y0, h0⟩ := hf 0 _ rfl
  obtain ⟨m1, y1, h1⟩ := hf 1 _ rfl
  obtain ⟨m2, y2, h2⟩ := hf 2 _ rfl
  obtain ⟨m3, y3, h3⟩ := hf 3 _ rfl
  obtain ⟨m4, y4, h4⟩ := hf 4 _ rfl
  obtain ⟨m5, y5, h5⟩ := hf 5 _ rfl
  obtain ⟨m6, y6, h6⟩ := hf 6 _ rfl
  have h0 : DataW.trod enc Try.prog W 0 (fun _ => true) true m0 3 ((cs.toList.drop 0).take (Try.prog.cellsOf 3)) = some y0 := h0
  have h1 : DataW.trod enc Try.prog W 0 (fun _ => true) true m1 22 ((cs.toList.drop 1).take (Try.prog.cellsOf 22)) = some y1 := h1
  have h2 : DataW.trod enc Try.prog W 0 (fun _ => true) true m2 23 ((cs.toList.drop 2).take (Try.prog.cellsOf 23)) = some y2 := h2
  have h3 : DataW.trod enc Try.prog W 0 (fun _ => true) true m3 25 ((cs.toList.drop 3).take (Try.prog.cellsOf 25)) = some y3 := h3
  have h4 : DataW.trod enc Try.prog W 0 (fun _ => true) true m4 26 ((cs.toList.drop 35).take (Try.prog.cellsOf 26)) = some y4 := h4
  have h5 : DataW.trod enc Try.prog W 0 (fun _ => true) true m5 28 ((cs.toList.drop 36).take (Try.prog.cellsOf 28)) = some y5 := h5
  have h6 : DataW.trod enc Try.prog W 0 (fun _ => true) true m6 9 ((cs.toList.drop 69).take (Try.prog.cellsOf 9)) = some y6 := h6
  obtain ⟨k, hk, _, _⟩ := DataW.trod_int Try.underlying3 h0
  obtain ⟨t, ht, htok, _⟩ := open_idT h3
  obtain ⟨s, hs, _, _⟩ := DataW.trod_string Try.underlying9 h6
  obtain ⟨_, hg⟩ := trod_field Try.underlying28 h5
  obtain ⟨g0, z0, hg0⟩ := hg 0 _ rfl
  obtain ⟨g1, z1, hg1⟩ := hg 1 _ rfl
  have hg0 : DataW.trod enc Try.prog W 0 (fun _ => true) true g0 3 ((((cs.toList.drop 36).take (Try.prog.cellsOf 28)).drop 0).take (Try.prog.cellsOf 3)) = some z0 := hg0
  have hg1 : DataW.trod enc Try.prog W 0 (fun _ => true) true g1 25 ((((cs.toList.drop 36).take (Try.prog.cellsOf 28)).drop 1).take (Try.prog.cellsOf 25)) = some z1 := hg1
  obtain ⟨gk, hgk, _, _⟩ := DataW.trod_int Try.underlying3 hg0
  obtain ⟨gi, hgi, hgok, _⟩ := open_idT hg1
  obtain ⟨v1, u1, c1, e1, o1⟩ := cell 1 (by decide)
  obtain ⟨v2, u2, c2, e2, o2⟩ := cell 2 (by decide)
  obtain ⟨v3, u3, c3, e3, o3⟩ := cell 35 (by decide)
  obtain rfl := Option.some.inj e1
  obtain rfl := Option.some.inj e2
  obtain rfl := Option.some.inj e3
  have c1' : cs.toList[1]? = some v1 := by simpa using c1
  have c2' : cs.toList[2]? = some v2 := by simpa using c2
  have c3' : cs.toList[35]? = some v3 := by simpa using c3
  rw [take1 cellsO_b c1'] at h1
  rw [take1 cellsO_e c2'] at h2
  rw [take1 cellsO_i c3'] at h4
  obtain ⟨HA, l1, hH1, r1, _, n1⟩ := open_cellL Try.underlying22 cellsO_u8 (by decide) byteC_len (ok := fun _ => True) (fun n cs x h => open_byteT h) o1 h1 HZ hH
  obtain ⟨HB, l2, hH2, r2, k2, n2⟩ := open_cellL Try.underlying23 cellsO_ent (by decide) entC_len (ok := fun e => IdOk e.id) (fun n cs x h => open_entT h) o2 h2 _ hH1
  obtain ⟨HC, l3, hH3, r3, k3, n3⟩ := open_cellL Try.underlying26 cellsO_id (by decide) idC_len (ok := fun f => IdOk f ∧ IdCan f) (fun n cs x h => open_idT h) o3 h4 _ hH2
  rw [cellsO_id] at ht hgi
  have a0 := at0 hk
  have a6 := at0 hs
  have ag := at0 hgk
  rw [cellsO_lnk] at ag hgi
  rw [atj (by decide)] at ag
  have key : cs = (objV ⟨k, l1, l2, t, l3, ⟨gk, gi⟩, s⟩ v1 v2 v3).cells := by
    apply Array.ext_getElem?
    intro i
    rw [← Array.getElem?_toList]
    by_cases i0 : i = 0
    · subst i0; rw [a0]; rfl
    by_cases i1 : i = 1
    · subst i1; rw [c1']; rfl
    by_cases i2 : i = 2
    · subst i2; rw [c2']; rfl
    by_cases i3 : i < 35
    · obtain ⟨j, hj, rfl⟩ : ∃ j, j < 32 ∧ i = 3 + j := ⟨i - 3, by omega, by omega⟩
      rw [obj_t_at _ _ _ _ hj, ← id_atC t hj, ← ht, atj hj]
    by_cases i4 : i = 35
    · subst i4; rw [c3']; rfl
    by_cases i5 : i = 36
    · subst i5; rw [ag]; rfl
    by_cases i6 : i < 69
    · obtain ⟨j, hj, rfl⟩ : ∃ j, j < 32 ∧ i = 37 + j := ⟨i - 37, by omega, by omega⟩
      rw [obj_g_at _ _ _ _ hj, ← id_atC gi hj, ← hgi, atj hj, atj (by omega), show 36 + (1 + j) = 37 + j by omega]
    by_cases i7 : i = 69
    · subst i7; rw [a6]; rfl
    · have e1 : (objV ⟨k, l1, l2, t, l3, ⟨gk, gi⟩, s⟩ v1 v2 v3).cells.size = 70 := rfl
      rw [List.getElem?_eq_none (by rw [Array.length_toList]; omega), Array.getElem?_eq_none (by omega)]
  refine ⟨HC ++ (HB ++ HA), ⟨k, l1, l2, t, l3, ⟨gk, gi⟩, s⟩, v1, v2, v3, by rw [key]; rfl, by rw [List.append_assoc, List.append_assoc]; exact hH3, Rdb.of_x (r1.mono fun _ hw => hw.sp (fun a => by simp only [cnt_append]; omega)), r2.mono fun _ hw => hw.sp (fun a => by simp only [cnt_append]; omega), r3.mono fun _ hw => hw.sp (fun a => by simp only [cnt_append]; omega), n1, n2, n3, k2, htok, hgok, fun f hf => (k3 f hf).1, fun f hf => (k3 f hf).2⟩

end Go.Proofs.Ytloljpefdecmhaa
