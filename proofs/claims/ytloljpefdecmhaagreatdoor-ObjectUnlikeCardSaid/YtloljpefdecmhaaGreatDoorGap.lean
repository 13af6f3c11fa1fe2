import Derived.Test.YtloljpefdecmhaaGreatDoorGao
namespace Go.Proofs.YtloljpefdecmhaaGreatDoor
open Go Go.Mv
set_option maxRecDepth 8000
theorem bd_object_blob (x : Ob) (d e p : Value) (w : World) : (Instr.build 175 #[(0, objV x d e p)]).run Tryz.prog w = .ok (objV x d e p) w := by kernel_rfl

theorem inv_blob_may : InvOk Tryz.prog 175 "marshes/object.may" 181 := by
  have h : ((Tryz.t175).methods.find? (·.name == "marshes/object.may")).isSome = true := by kernel_rfl
  exact invOk_of (i := Tryz.t175) (m := Option.get _ h) (by kernel_rfl) (Option.some_get h).symm (by kernel_rfl) (by kernel_rfl) Tryz.underlying175 (fun _ h => nomatch h) Tryz.call181

theorem inv_blob_bare : InvOk Tryz.prog 175 "marshes/object.bare" 179 := by
  have h : ((Tryz.t175).methods.find? (·.name == "marshes/object.bare")).isSome = true := by kernel_rfl
  exact invOk_of (i := Tryz.t175) (m := Option.get _ h) (by kernel_rfl) (Option.some_get h).symm (by kernel_rfl) (by kernel_rfl) Tryz.underlying175 (fun _ h => nomatch h) Tryz.call179

theorem inv_blob_links : InvOk Tryz.prog 175 "marshes/object.links" 180 := by
  have h : ((Tryz.t175).methods.find? (·.name == "marshes/object.links")).isSome = true := by kernel_rfl
  exact invOk_of (i := Tryz.t175) (m := Option.get _ h) (by kernel_rfl) (Option.some_get h).symm (by kernel_rfl) (by kernel_rfl) Tryz.underlying175 (fun _ h => nomatch h) Tryz.call180

theorem bd_object_tree (x : Ob) (d e p : Value) (w : World) : (Instr.build 176 #[(0, objV x d e p)]).run Tryz.prog w = .ok (objV x d e p) w := by kernel_rfl

theorem inv_tree_may : InvOk Tryz.prog 176 "marshes/object.may" 189 := by
  have h : ((Tryz.t176).methods.find? (·.name == "marshes/object.may")).isSome = true := by kernel_rfl
  exact invOk_of (i := Tryz.t176) (m := Option.get _ h) (by kernel_rfl) (Option.some_get h).symm (by kernel_rfl) (by kernel_rfl) Tryz.underlying176 (fun _ h => nomatch h) Tryz.call189

theorem inv_tree_bare : InvOk Tryz.prog 176 "marshes/object.bare" 187 := by
  have h : ((Tryz.t176).methods.find? (·.name == "marshes/object.bare")).isSome = true := by kernel_rfl
  exact invOk_of (i := Tryz.t176) (m := Option.get _ h) (by kernel_rfl) (Option.some_get h).symm (by kernel_rfl) (by kernel_rfl) Tryz.underlying176 (fun _ h => nomatch h) Tryz.call187

theorem inv_tree_links : InvOk Tryz.prog 176 "marshes/object.links" 188 := by
  have h : ((Tryz.t176).methods.find? (·.name == "marshes/object.links")).isSome = true := by kernel_rfl
  exact invOk_of (i := Tryz.t176) (m := Option.get _ h) (by kernel_rfl) (Option.some_get h).symm (by kernel_rfl) (by kernel_rfl) Tryz.underlying176 (fun _ h => nomatch h) Tryz.call188

theorem bd_object_commit (x : Ob) (d e p : Value) (w : World) : (Instr.build 177 #[(0, objV x d e p)]).run Tryz.prog w = .ok (objV x d e p) w := by kernel_rfl

theorem inv_commit_may : InvOk Tryz.prog 177 "marshes/object.may" 205 := by
  have h : ((Tryz.t177).methods.find? (·.name == "marshes/object.may")).isSome = true := by kernel_rfl
  exact invOk_of (i := Tryz.t177) (m := Option.get _ h) (by kernel_rfl) (Option.some_get h).symm (by kernel_rfl) (by kernel_rfl) Tryz.underlying177 (fun _ h => nomatch h) Tryz.call205

theorem inv_commit_bare : InvOk Tryz.prog 177 "marshes/object.bare" 203 := by
  have h : ((Tryz.t177).methods.find? (·.name == "marshes/object.bare")).isSome = true := by kernel_rfl
  exact invOk_of (i := Tryz.t177) (m := Option.get _ h) (by kernel_rfl) (Option.some_get h).symm (by kernel_rfl) (by kernel_rfl) Tryz.underlying177 (fun _ h => nomatch h) Tryz.call203

theorem inv_commit_links : InvOk Tryz.prog 177 "marshes/object.links" 204 := by
  have h : ((Tryz.t177).methods.find? (·.name == "marshes/object.links")).isSome = true := by kernel_rfl
  exact invOk_of (i := Tryz.t177) (m := Option.get _ h) (by kernel_rfl) (Option.some_get h).symm (by kernel_rfl) (by kernel_rfl) Tryz.underlying177 (fun _ h => nomatch h) Tryz.call204

theorem bd_object_tag (x : Ob) (d e p : Value) (w : World) : (Instr.build 178 #[(0, objV x d e p)]).run Tryz.prog w = .ok (objV x d e p) w := by kernel_rfl

theorem inv_tag_may : InvOk Tryz.prog 178 "marshes/object.may" 210 := by
  have h : ((Tryz.t178).methods.find? (·.name == "marshes/object.may")).isSome = true := by kernel_rfl
  exact invOk_of (i := Tryz.t178) (m := Option.get _ h) (by kernel_rfl) (Option.some_get h).symm (by kernel_rfl) (by kernel_rfl) Tryz.underlying178 (fun _ h => nomatch h) Tryz.call210

theorem inv_tag_bare : InvOk Tryz.prog 178 "marshes/object.bare" 208 := by
  have h : ((Tryz.t178).methods.find? (·.name == "marshes/object.bare")).isSome = true := by kernel_rfl
  exact invOk_of (i := Tryz.t178) (m := Option.get _ h) (by kernel_rfl) (Option.some_get h).symm (by kernel_rfl) (by kernel_rfl) Tryz.underlying178 (fun _ h => nomatch h) Tryz.call208

theorem inv_tag_links : InvOk Tryz.prog 178 "marshes/object.links" 209 := by
  have h : ((Tryz.t178).methods.find? (·.name == "marshes/object.links")).isSome = true := by kernel_rfl
  exact invOk_of (i := Tryz.t178) (m := Option.get _ h) (by kernel_rfl) (Option.some_get h).symm (by kernel_rfl) (by kernel_rfl) Tryz.underlying178 (fun _ h => nomatch h) Tryz.call209

def entsL (l : List Ent) : List Lnk := l.map fun e => ⟨e.k, e.id⟩
def parsL (l : List (Nat → Int)) : List Lnk := l.map fun p => ⟨3, p⟩
@[simp] theorem entsL_nil : entsL [] = [] := rfl
@[simp] theorem parsL_nil : parsL [] = [] := rfl
theorem entsL_next {l : List Ent} {i : Nat} (hi : i < l.length) : entsL (l.take i) ++ [⟨(gt l i).k, (gt l i).id⟩] = entsL (l.take (i + 1)) := by
  rw [take_succ_of (gt_some hi), entsL, entsL, List.map_append]; rfl
theorem parsL_next {y : Lnk} {l : List (Nat → Int)} {i : Nat} (hi : i < l.length) : y :: parsL (l.take i) ++ [⟨3, gt l i⟩] = y :: parsL (l.take (i + 1)) := by
  rw [take_succ_of (gt_some hi), parsL, parsL, List.map_append]; rfl
theorem take_all {α : Type} {l : List α} {i : Nat} (h : l.length ≤ i) : l.take i = l := List.take_of_length_le h
theorem entsL_len (l : List Ent) : (entsL l).length = l.length := by simp [entsL]
theorem parsL_len (l : List (Nat → Int)) : (parsL l).length = l.length := by simp [parsL]
def lastN (l : List Ent) (i : Nat) : ByteArray := if i = 0 then ⟨#[]⟩ else (gt l (i - 1)).name
theorem slt_nil (a : ByteArray) : slt ⟨#[]⟩ a = decide (1 ≤ a.size) := by
  unfold slt
  rw [Lib.toList_data, Lib.toList_data, Lib.size_eq]
  cases a.data.toList with
  | nil => rfl
  | cons c l => rw [decide_eq_true (by simp)]; rfl
theorem lastN_succ {l : List Ent} {i : Nat} : lastN l (i + 1) = (gt l i).name := rfl
theorem ent2 {l : List Ent} (i : Nat) : entAt l i = !(sle (gt l i).name (lastN l i) || (decide (64 < ((gt l i).name.size : Int)) || (hasSep (gt l i).name || (!decide ((gt l i).k = 1) && !decide ((gt l i).k = 2))))) := by
  rw [sle_not]
  have e1 : decide ((gt l i).name.size ≤ 64) = !decide (64 < ((gt l i).name.size : Int)) := by rw [← decide_not]; exact decide_eq_decide.2 (by omega)
  by_cases h : i = 0
  · rw [lastN, if_pos h, slt_nil, entAt, nameB, decide_eq_true h, e1]
    generalize decide (1 ≤ (gt l i).name.size) = a
    generalize decide (64 < ((gt l i).name.size : Int)) = b
    generalize hasSep (gt l i).name = c
    generalize decide ((gt l i).k = 1) = d
    generalize decide ((gt l i).k = 2) = e
    cases a <;> cases b <;> cases c <;> cases d <;> cases e <;> rfl
  · rw [lastN, if_neg h, entAt, nameB, decide_eq_false h, e1]
    have h1 : slt (gt l (i - 1)).name (gt l i).name = true → decide (1 ≤ (gt l i).name.size) = true := fun hs => by
      rw [← slt_nil]
      rcases slt_tri ⟨#[]⟩ (gt l (i - 1)).name with h2 | h2 | h2
      · exact slt_tr h2 hs
      · rw [h2]; exact hs
      · have : slt (gt l (i - 1)).name ⟨#[]⟩ = false := by
          cases hq : slt (gt l (i - 1)).name ⟨#[]⟩ with
          | false => rfl
          | true =>
            unfold slt at hq
            rw [Lib.toList_data, Lib.toList_data] at hq
            cases hw : (gt l (i - 1)).name.data.toList with
            | nil => rw [hw] at hq; exact absurd hq (by decide)
            | cons c r => rw [hw] at hq; exact absurd hq (by show ¬ Op.bytesLess (c :: r) [] = true; simp [Op.bytesLess])
        rw [this] at h2; cases h2
    generalize decide (1 ≤ (gt l i).name.size) = a at h1 ⊢
    generalize decide (64 < ((gt l i).name.size : Int)) = b
    generalize hasSep (gt l i).name = c
    generalize decide ((gt l i).k = 1) = d
    generalize decide ((gt l i).k = 2) = e
    generalize slt (gt l (i - 1)).name (gt l i).name = f at h1 ⊢
    cases a <;> cases b <;> cases c <;> cases d <;> cases e <;> cases f <;> first | rfl | exact absurd (h1 rfl) (by decide)
theorem ent2_F {l : List Ent} {i : Nat} {e : Bool} (h : entAt l i = !e) (hc : e = true) : entAt l i = false := by rw [h, hc]; rfl
theorem ent2_T {l : List Ent} {i : Nat} {e : Bool} (h : entAt l i = !e) (hc : e = false) : entAt l i = true := by rw [h, hc]; rfl

theorem c_blobMay (x : Ob) (xd : Value) (xe : Value) (xp : Value) (HX : Mem) (w : World) (hbxd : Rdb HX xd x.data) (hbxe : Rdx 34 (entC) HX xe x.ents) (hbxp : Rdx 32 (idC) HX xp x.pars) (hox : ObOk x) (hH : Hp HX w) : Calls Tryz.prog 181 #[objV x xd xe xp] w (Ret w [] fun v H1 => v = .bool (decide ((x.data.length : Int) ≤ 1024)) ∧ H1 = []) := by
  have hw1 := hox.d; have hw2 := hox.e; have hw3 := hox.p; have hw4 := hox.m; have hwe := hox.en
  refine fn_enter (args := [_]) Tryz.func181 rfl Tryz.ntmps181 rfl hH ?_
  refine pn_seq ?_
  refine pn_plain [] rfl ?_
  refine TE_boxC (objV x xd xe xp).cells rfl rfl rfl trivial rfl fun b1 hb1 => ?_
  refine TE_q rfl rfl (RD.assign rfl) rfl ?_
  refine TE_nil0 ?_
  refine pn_seq ?_
  refine pn_plain [3] rfl ?_
  refine TE_q rfl rfl (RD.fieldAddr (o := 0) Tryz.runUnderlying175 rfl rfl Tryz.sizeOf48 rfl) rfl ?_
  refine TE_q rfl rfl (RD.fieldAddr (o := 1) Tryz.runUnderlying48 rfl rfl Tryz.sizeOf32 rfl) rfl ?_
  refine TE_l rfl rfl trivial rfl (RD.load (i := 0) (v := xd) Tryz.isAgg32 rfl rfl rfl) rfl ?_
  refine TE_q rfl rfl (RD.lenR Tryz.runUnderlying32 rfl hbxd) rfl ?_
  refine TE_q rfl rfl (RD.leq rfl rfl) rfl ?_
  refine TE_q rfl rfl (RD.assign rfl) rfl ?_
  refine TE_nil0 ?_
  refine pn_ret ?_
  exact pn_doneS [] rfl rfl ⟨rfl, rfl⟩ (fun _ => Nat.zero_le _) (fun _ he => nomatch he)

theorem c_treeMay (x : Ob) (xd : Value) (xe : Value) (xp : Value) (HX : Mem) (w : World) (hbxd : Rdb HX xd x.data) (hbxe : Rdx 34 (entC) HX xe x.ents) (hbxp : Rdx 32 (idC) HX xp x.pars) (hox : ObOk x) (hH : Hp HX w) : Calls Tryz.prog 189 #[objV x xd xe xp] w (Ret w [] fun v H1 => v = .bool (treeB x.ents) ∧ H1 = []) := by
  have hw1 := hox.d; have hw2 := hox.e; have hw3 := hox.p; have hw4 := hox.m; have hwe := hox.en
  refine fn_enter (args := [_]) Tryz.func189 rfl Tryz.ntmps189 rfl hH ?_
  refine pn_seq ?_
  refine pn_plain [] rfl ?_
  refine TE_boxC (objV x xd xe xp).cells rfl rfl rfl trivial rfl fun b1 hb1 => ?_
  refine TE_q rfl rfl (RD.assign rfl) rfl ?_
  refine TE_nil0 ?_
  refine pn_seq ?_
  refine pn_plain [] rfl ?_
  refine TE_q rfl rfl (RD.assign rfl) rfl ?_
  refine TE_nil0 ?_
  refine pn_seq ?_
  refine pn_seq ?_
  refine pn_plain [3] rfl ?_
  refine TE_q rfl rfl (RD.fieldAddr (o := 0) Tryz.runUnderlying176 rfl rfl Tryz.sizeOf48 rfl) rfl ?_
  refine TE_q rfl rfl (RD.fieldAddr (o := 2) Tryz.runUnderlying48 rfl rfl Tryz.sizeOf43 rfl) rfl ?_
  refine TE_l rfl rfl trivial rfl (RD.load (i := 0) (v := xe) Tryz.isAgg43 rfl rfl rfl) rfl ?_
  refine TE_q rfl rfl (RD.lenX Tryz.runUnderlying43 rfl hbxe) rfl ?_
  refine TE_q rfl rfl (RD.move rfl) rfl ?_
  refine TE_nil0 ?_
  refine pn_block ?_
  refine pn_loopS (σ := Nat) (fun q => [(1, .pointer (some ⟨b1, 0, none⟩)), (8, xe), (9, .int .i64 (x.ents.length : Int)), (3, .string (lastN x.ents q)), (10, .int .i64 (q : Int))]) (fun q => ((b1, .cells (objV x xd xe xp).cells 176 (0, 0)) :: HX)) (fun q => (q ≤ x.ents.length) ∧ (∀ j, j < q → entAt x.ents j = true)) (fun q => x.ents.length - q) 0 ⟨(by omega), (fun j hj => absurd hj (Nat.not_lt_zero _))⟩ ⟨rfl, rfl, rfl, rfl, rfl, trivial⟩ (fun a => by simp -failIfUnchanged <;> omega) ?_
  rintro i ⟨hi, hall⟩
  refine pn_seq ?_
  refine pn_plain [] rfl ?_
  refine TE_q rfl rfl (RD.lss rfl rfl) rfl ?_
  refine TE_nil0 ?_
  refine pn_seq ?_
  refine pn_condD rfl (fun hc1 => ?_) (fun hc1 => ?_)
  · refine pn_skip ?_
    refine pn_seq ?_
    refine pn_block ?_
    refine pn_seq ?_
    refine pn_plain [] rfl ?_
    refine TE_q rfl rfl (RD.idxR (i := i) (o := (i * 34 + 0)) Tryz.runUnderlying43 Tryz.sizeOf97 rfl hbxe rfl rfl (by omega) (by rfl)) rfl ?_
    refine TE_l rfl rfl trivial rfl (RD.ldRA (i := i) (j := 0) (vs := (entC (gt x.ents i))) Tryz.isAgg97 Tryz.sizeOf97 rfl hbxe (gt_some (by omega)) (by rfl) rfl (fun _ _ hu => by rw [Nat.zero_add]; exact hu) (entC_agg _) (fun _ hw => hw.sp (fun a => by simp -failIfUnchanged <;> omega))) rfl ?_
    refine TE_allocC (entV (⟨⟨#[]⟩, 0, (fun _ => 0)⟩ : Ent)).cells rfl Tryz.zeroValue97 rfl trivial rfl fun b5 hb5 => ?_
    refine TE_putCW 0 (entV (⟨⟨#[]⟩, 0, (fun _ => 0)⟩ : Ent)).cells (entV (gt x.ents i)).cells ((b5, .cells (entV (gt x.ents i)).cells 97 (0, 0)) :: (b1, .cells (objV x xd xe xp).cells 176 (0, 0)) :: HX) rfl Tryz.sizeOf97 trivial rfl rfl rfl rfl rfl rfl rfl rfl (.inl hb5) ?_
    refine TE_nil0 ?_
    refine pn_seq ?_
    refine pn_seq ?_
    refine pn_plain [7] rfl ?_
    refine TE_q rfl rfl (RD.fieldAddr (o := 0) Tryz.runUnderlying97 rfl rfl Tryz.sizeOf9 rfl) rfl ?_
    refine TE_l rfl rfl trivial rfl (RD.load (i := 0) (v := .string ((gt x.ents i).name)) Tryz.isAgg9 rfl rfl rfl) rfl ?_
    refine TE_q rfl rfl (RD.move rfl) rfl ?_
    refine TE_q rfl rfl (RD.leq_string rfl rfl) rfl ?_
    refine TE_q rfl rfl (RD.move rfl) rfl ?_
    refine TE_join (σ := Unit) (fun _ => [(1, .pointer (some ⟨b1, 0, none⟩)), (5, .pointer (some ⟨b5, 0, none⟩)), (8, xe), (9, .int .i64 (x.ents.length : Int)), (10, .int .i64 (i : Int)), (38, .bool ((sle ((gt x.ents i).name) (lastN x.ents i)) || ((decide (64 < (((gt x.ents i).name).size : Int))) || ((hasSep ((gt x.ents i).name)) || ((!decide (((gt x.ents i).k) = 1)) && (!decide (((gt x.ents i).k) = 2)))))))]) (fun _ => ((b5, .cells (entV (gt x.ents i)).cells 97 (0, 0)) :: (b1, .cells (objV x xd xe xp).cells 176 (0, 0)) :: HX)) (fun _ => True) ?_ ?_
    · refine TE_bool (fun hf2 => ?_) (fun hf2 => ?_)
      · refine TE_s rfl rfl rfl rfl rfl ?_
        refine TE_s rfl rfl rfl rfl rfl ?_
        refine TE_s rfl rfl rfl rfl rfl ?_
        refine TE_s rfl rfl rfl rfl rfl ?_
        refine TE_q rfl rfl (RD.pickT rfl rfl) rfl ?_
        refine TE_q rfl rfl (RD.move rfl) rfl ?_
        refine TE_s rfl rfl rfl rfl rfl ?_
        refine TE_s rfl rfl rfl rfl rfl ?_
        refine TE_s rfl rfl rfl rfl rfl ?_
        refine TE_q rfl rfl (RD.pickT rfl rfl) rfl ?_
        refine TE_q rfl rfl (RD.move rfl) rfl ?_
        refine TE_s rfl rfl rfl rfl rfl ?_
        refine TE_s rfl rfl rfl rfl rfl ?_
        refine TE_s rfl rfl rfl rfl rfl ?_
        refine TE_s rfl rfl rfl rfl rfl ?_
        refine TE_su rfl rfl rfl rfl ?_
        refine TE_su rfl rfl rfl rfl ?_
        refine TE_su rfl rfl rfl rfl ?_
        refine TE_s rfl rfl rfl rfl rfl ?_
        refine TE_q rfl rfl (RD.pickT rfl rfl) rfl ?_
        refine TE_nil0 ?_
        exact pn_give () trivial ⟨rfl, rfl, rfl, rfl, rfl, congrArg (fun b => some (Value.bool b)) (by first | (simp [hf2]; done) | (simp only [hf2]; rfl) | (simp only [hf2]; simp; done)), trivial⟩ (fun _ hw => hw.sp (fun a => by simp -failIfUnchanged <;> omega))
      · refine TE_gq rfl rfl rfl rfl (RD.fieldAddr (o := 0) Tryz.runUnderlying97 rfl rfl Tryz.sizeOf9 rfl) rfl ?_
        refine TE_l rfl rfl ⟨_, rfl, rfl⟩ rfl (RD.load (i := 0) (v := .string ((gt x.ents i).name)) Tryz.isAgg9 rfl rfl rfl) rfl ?_
        refine TE_gq rfl rfl rfl rfl (RD.len_string Tryz.runUnderlying9 rfl) rfl ?_
        refine TE_gq rfl rfl rfl rfl (RD.gtr rfl rfl) rfl ?_
        refine TE_q rfl rfl (RD.pickF rfl rfl) rfl ?_
        refine TE_q rfl rfl (RD.move rfl) rfl ?_
        refine TE_dec (fun hf3 => ?_) (fun hf3 => ?_)
        · refine TE_s rfl rfl rfl rfl rfl ?_
          refine TE_s rfl rfl rfl rfl rfl ?_
          refine TE_s rfl rfl rfl rfl rfl ?_
          refine TE_q rfl rfl (RD.pickT rfl rfl) rfl ?_
          refine TE_q rfl rfl (RD.move rfl) rfl ?_
          refine TE_s rfl rfl rfl rfl rfl ?_
          refine TE_s rfl rfl rfl rfl rfl ?_
          refine TE_s rfl rfl rfl rfl rfl ?_
          refine TE_s rfl rfl rfl rfl rfl ?_
          refine TE_su rfl rfl rfl rfl ?_
          refine TE_su rfl rfl rfl rfl ?_
          refine TE_su rfl rfl rfl rfl ?_
          refine TE_s rfl rfl rfl rfl rfl ?_
          refine TE_q rfl rfl (RD.pickT rfl rfl) rfl ?_
          refine TE_nil0 ?_
          exact pn_give () trivial ⟨rfl, rfl, rfl, rfl, rfl, congrArg (fun b => some (Value.bool b)) (by first | (simp [hf2, hf3]; done) | (simp only [hf2, decide_eq_true hf3]; rfl) | (simp only [hf2, decide_eq_true hf3]; simp; done)), trivial⟩ (fun _ hw => hw.sp (fun a => by simp -failIfUnchanged <;> omega))
        · refine TE_gq rfl rfl rfl rfl (RD.fieldAddr (o := 0) Tryz.runUnderlying97 rfl rfl Tryz.sizeOf9 rfl) rfl ?_
          refine TE_l rfl rfl ⟨_, rfl, rfl⟩ rfl (RD.load (i := 0) (v := .string ((gt x.ents i).name)) Tryz.isAgg9 rfl rfl rfl) rfl ?_
          refine TE_callG _ [] rfl rfl ⟨_, rfl, rfl⟩ Tryz.call191 rfl rfl rfl (fun w hw => c_hasSep ((gt x.ents i).name) w (Nat.le_trans (hwe _ (gt_mem (by omega))).n (by decide)) (hw.sp (fun a => by simp -failIfUnchanged <;> omega))) (fun a => by simp -failIfUnchanged <;> omega) ?_
          rintro v4 H5 ⟨rfl, rfl⟩ -
          refine TE_q rfl rfl (RD.pickF rfl rfl) rfl ?_
          refine TE_q rfl rfl (RD.move rfl) rfl ?_
          refine TE_bool (fun hf6 => ?_) (fun hf6 => ?_)
          · refine TE_s rfl rfl rfl rfl rfl ?_
            refine TE_s rfl rfl rfl rfl rfl ?_
            refine TE_s rfl rfl rfl rfl rfl ?_
            refine TE_s rfl rfl rfl rfl rfl ?_
            refine TE_su rfl rfl rfl rfl ?_
            refine TE_su rfl rfl rfl rfl ?_
            refine TE_su rfl rfl rfl rfl ?_
            refine TE_s rfl rfl rfl rfl rfl ?_
            refine TE_q rfl rfl (RD.pickT rfl rfl) rfl ?_
            refine TE_nil0 ?_
            exact pn_give () trivial ⟨rfl, rfl, rfl, rfl, rfl, congrArg (fun b => some (Value.bool b)) (by first | (simp [hf2, hf3, hf6]; done) | (simp only [hf2, decide_eq_false hf3, hf6]; rfl) | (simp only [hf2, decide_eq_false hf3, hf6]; simp; done)), trivial⟩ (fun _ hw => hw.sp (fun a => by simp -failIfUnchanged <;> omega))
          · refine TE_gq rfl rfl rfl rfl (RD.fieldAddr (o := 1) Tryz.runUnderlying97 rfl rfl Tryz.sizeOf3 rfl) rfl ?_
            refine TE_l rfl rfl ⟨_, rfl, rfl⟩ rfl (RD.load (i := 0) (v := .int .i64 ((gt x.ents i).k)) Tryz.isAgg3 rfl rfl rfl) rfl ?_
            refine TE_gq rfl rfl rfl rfl (RD.neq rfl rfl) rfl ?_
            refine TE_gq rfl rfl rfl rfl (RD.move rfl) rfl ?_
            refine TE_ndec (fun hf7 => ?_) (fun hf7 => ?_)
            · refine TE_gq rfl rfl rfl rfl (RD.fieldAddr (o := 1) Tryz.runUnderlying97 rfl rfl Tryz.sizeOf3 rfl) rfl ?_
              refine TE_l rfl rfl ⟨_, rfl, rfl⟩ rfl (RD.load (i := 0) (v := .int .i64 ((gt x.ents i).k)) Tryz.isAgg3 rfl rfl rfl) rfl ?_
              refine TE_gq rfl rfl rfl rfl (RD.neq rfl rfl) rfl ?_
              refine TE_gq rfl rfl rfl rfl (RD.pickT rfl rfl) rfl ?_
              refine TE_q rfl rfl (RD.pickF rfl rfl) rfl ?_
              refine TE_nil0 ?_
              exact pn_give () trivial ⟨rfl, rfl, rfl, rfl, rfl, congrArg (fun b => some (Value.bool b)) (by first | (simp [hf2, hf3, hf6, hf7]; done) | (simp only [hf2, decide_eq_false hf3, hf6, decide_eq_false hf7]; rfl) | (simp only [hf2, decide_eq_false hf3, hf6, decide_eq_false hf7]; simp; done)), trivial⟩ (fun _ hw => hw.sp (fun a => by simp -failIfUnchanged <;> omega))
            · refine TE_s rfl rfl rfl rfl rfl ?_
              refine TE_s rfl rfl rfl rfl rfl ?_
              refine TE_s rfl rfl rfl rfl rfl ?_
              refine TE_gq rfl rfl rfl rfl (RD.pickF rfl rfl) rfl ?_
              refine TE_q rfl rfl (RD.pickF rfl rfl) rfl ?_
              refine TE_nil0 ?_
              exact pn_give () trivial ⟨rfl, rfl, rfl, rfl, rfl, congrArg (fun b => some (Value.bool b)) (by first | (simp [hf2, hf3, hf6, hf7]; done) | (simp only [hf2, decide_eq_false hf3, hf6, decide_eq_true hf7]; rfl) | (simp only [hf2, decide_eq_false hf3, hf6, decide_eq_true hf7]; simp; done)), trivial⟩ (fun _ hw => hw.sp (fun a => by simp -failIfUnchanged <;> omega))
    rintro _ -
    refine pn_cond rfl (fun hc8 => ?_) (fun hc8 => ?_)
    · refine pn_seq ?_
      refine pn_plainG [] [] rfl (fun a => by simp -failIfUnchanged <;> omega) ?_
      refine TE_q rfl rfl (RD.assign rfl) rfl ?_
      refine TE_nil0 ?_
      refine pn_ret ?_
      exact pn_doneS [] rfl rfl ⟨(congrArg Value.bool (tree_F2 (i := i) (by omega) (ent2_F (ent2 i) hc8)).symm), rfl⟩ (fun _ => Nat.zero_le _) (fun _ he => nomatch he)
    · refine pn_skip ?_
      refine pn_plain [] rfl ?_
      refine TE_q rfl rfl (RD.fieldAddr (o := 0) Tryz.runUnderlying97 rfl rfl Tryz.sizeOf9 rfl) rfl ?_
      refine TE_l rfl rfl trivial rfl (RD.load (i := 0) (v := .string ((gt x.ents i).name)) Tryz.isAgg9 rfl rfl rfl) rfl ?_
      refine TE_q rfl rfl (RD.assign rfl) rfl ?_
      refine TE_nil0 ?_
      refine pn_plainG [] ((b1, .cells (objV x xd xe xp).cells 176 (0, 0)) :: HX) rfl (fun a => by simp -failIfUnchanged <;> omega) ?_
      refine TE_q rfl rfl (RD.addI rfl rfl (by omega) (by omega)) rfl ?_
      refine TE_q rfl rfl (RD.move rfl) rfl ?_
      refine TE_nil0 ?_
      have he9 : (gt x.ents i).name = (lastN x.ents (i + 1)) := lastN_succ.symm
      exact pn_againS (i + 1) ⟨(by omega), (fun j hj => (by rcases Nat.lt_or_ge j i with h | h; exact hall j h; obtain rfl : j = i := (by omega); exact ent2_T (ent2 j) hc8))⟩ (by omega) ⟨rfl, rfl, rfl, (congrArg (fun z => some (Value.string z)) he9), rfl, trivial⟩ (fun a => by simp -failIfUnchanged <;> omega)
  · refine pn_exit ?_
    refine pn_seq ?_
    refine pn_plain [3] rfl ?_
    refine TE_q rfl rfl (RD.fieldAddr (o := 0) Tryz.runUnderlying176 rfl rfl Tryz.sizeOf48 rfl) rfl ?_
    refine TE_q rfl rfl (RD.fieldAddr (o := 2) Tryz.runUnderlying48 rfl rfl Tryz.sizeOf43 rfl) rfl ?_
    refine TE_l rfl rfl trivial rfl (RD.load (i := 0) (v := xe) Tryz.isAgg43 rfl rfl rfl) rfl ?_
    refine TE_q rfl rfl (RD.lenX Tryz.runUnderlying43 rfl hbxe) rfl ?_
    refine TE_q rfl rfl (RD.leq rfl rfl) rfl ?_
    refine TE_q rfl rfl (RD.assign rfl) rfl ?_
    refine TE_nil0 ?_
    refine pn_ret ?_
    exact pn_doneS [] rfl rfl ⟨(congrArg Value.bool ((tree_T fun j hj => hall j (by omega)).trans (decide_eq_decide.2 (by omega))).symm), rfl⟩ (fun _ => Nat.zero_le _) (fun _ he => nomatch he)

theorem nodup_le {α : Type} [DecidableEq α] : ∀ {xs l : List α}, xs.Nodup → (∀ x ∈ xs, x ∈ l) → xs.length ≤ l.length
  | [], _, _, _ => Nat.zero_le _
  | x :: xs, l, h, hs => by
    rw [List.nodup_cons] at h
    have hx := hs x List.mem_cons_self
    have h1 := nodup_le (l := l.erase x) h.2 (fun y hy => (List.mem_erase_of_ne (fun he => h.1 (by rw [← he]; exact hy))).2 (hs y (List.mem_cons_of_mem _ hy)))
    rw [List.length_erase_of_mem hx] at h1
    have := List.length_pos_of_mem hx
    simp only [List.length_cons]; omega
theorem setOf_le {l xs : List (Nat → Int)} (h : SetOf l xs) : xs.length ≤ l.length := by
  have : DecidableEq (Nat → Int) := fun a b => Classical.propDecidable (a = b)
  exact nodup_le (srt_nodup h.1) fun x hx => (h.2 x).1 hx
theorem setOf_uniq {l ts : List (Nat → Int)} (h : SetOf l ts) (hc : ∀ p ∈ l, IdCan p) : decide ((ts.length : Int) = (l.length : Int)) = uniqB l := by
  have hnd : ts.Nodup := srt_nodup h.1
  have hsub : ∀ {l : List (Nat → Int)}, (∀ p ∈ l, IdCan p) → (uniqB l = true ↔ l.Nodup) := fun {l} hc => by
    constructor
    · intro hu
      rw [List.nodup_iff_pairwise_ne, List.pairwise_iff_getElem]
      intro i j hi hj hij he
      have h1 := uniq_at hu hj hij
      have e1 := gt_some hi; have e2 := gt_some hj
      rw [List.getElem?_eq_getElem hi] at e1
      rw [List.getElem?_eq_getElem hj] at e2
      rw [← Option.some.inj e1, ← Option.some.inj e2, he, sameN_self] at h1
      cases h1
    · intro hn
      refine uniq_T fun i k hi hk => ?_
      cases hs : sameN 32 (gt l i) (gt l k) with
      | false => rfl
      | true =>
        have hk' : k < l.length := by omega
        have e : gt l i = gt l k := eq_of_can (hc _ (gt_mem hi)) (hc _ (gt_mem hk')) (idCmp_zero.2 (sameN_iff.1 hs))
        rw [List.nodup_iff_pairwise_ne, List.pairwise_iff_getElem] at hn
        have e1 := gt_some hi; have e2 := gt_some hk'
        rw [List.getElem?_eq_getElem hi] at e1
        rw [List.getElem?_eq_getElem hk'] at e2
        exact absurd ((Option.some.inj e2).trans (e.symm.trans (Option.some.inj e1).symm)) (hn k i hk' hi hk)
  rw [Bool.eq_iff_iff, decide_eq_true_eq, hsub hc]
  constructor
  · intro he
    rw [List.nodup_iff_pairwise_ne, List.pairwise_iff_getElem]
    intro i j hi hj hij heq
    have h2 : SetOf (l.eraseIdx j) ts := h.congr fun x => by
      rw [List.mem_eraseIdx_iff_getElem?]
      constructor
      · intro hx
        obtain ⟨k, hk, rfl⟩ := List.getElem_of_mem hx
        by_cases hkj : k = j
        · subst hkj; exact ⟨i, by omega, by rw [List.getElem?_eq_getElem hi, heq]⟩
        · exact ⟨k, hkj, List.getElem?_eq_getElem hk⟩
      · rintro ⟨k, _, hk⟩
        exact List.mem_of_getElem? hk
    have := setOf_le h2
    rw [List.length_eraseIdx_of_lt hj] at this
    omega
  · intro hn
    have hp : ts.Perm l := (List.perm_ext_iff_of_nodup hnd hn).2 h.2
    rw [hp.length_eq]

theorem cmay_eq {x : Ob} {b : Bool} : (decide ((x.pars.length : Int) ≤ 4) && (uniqB x.pars && b)) = (parsB x.pars && b) := by
  rw [parsB, Bool.and_assoc]
  congr 1
  exact decide_eq_decide.2 (by omega)

theorem c_said (s : ByteArray) (w : World) (hs : s.size ≤ 1000000) (hH : Hp [] w) : Calls Tryz.prog 207 #[.string s] w (Ret w [] fun v H1 => v = .bool (decide ((s.size : Int) ≤ 200)) ∧ H1 = []) := by
  refine fn_enter (args := [_]) Tryz.func207 rfl Tryz.ntmps207 rfl hH ?_
  refine pn_seq ?_
  refine pn_plain [] rfl ?_
  refine TE_q rfl rfl (RD.assign rfl) rfl ?_
  refine TE_nil0 ?_
  refine pn_seq ?_
  refine pn_plain [1] rfl ?_
  refine TE_q rfl rfl (RD.move rfl) rfl ?_
  refine TE_q rfl rfl (RD.len_string Tryz.runUnderlying9 rfl) rfl ?_
  refine TE_q rfl rfl (RD.leq rfl rfl) rfl ?_
  refine TE_q rfl rfl (RD.assign rfl) rfl ?_
  refine TE_nil0 ?_
  refine pn_ret ?_
  exact pn_doneS [] rfl rfl ⟨rfl, rfl⟩ (fun _ => Nat.zero_le _) (fun _ he => nomatch he)

theorem c_known (k : Int) (w : World) (hH : Hp [] w) : Calls Tryz.prog 212 #[.int .i64 k] w (Ret w [] fun v H1 => v = .bool ((decide (1 ≤ k)) && (decide (k ≤ 4))) ∧ H1 = []) := by
  refine fn_enter (args := [_]) Tryz.func212 rfl Tryz.ntmps212 rfl hH ?_
  refine pn_seq ?_
  refine pn_plain [] rfl ?_
  refine TE_q rfl rfl (RD.assign rfl) rfl ?_
  refine TE_nil0 ?_
  refine pn_seq ?_
  refine pn_plain [] rfl ?_
  refine TE_q rfl rfl (RD.move rfl) rfl ?_
  refine TE_q rfl rfl (RD.geq rfl rfl) rfl ?_
  refine TE_q rfl rfl (RD.move rfl) rfl ?_
  refine TE_join (σ := Unit) (fun _ => [(2, .bool ((decide (1 ≤ k)) && (decide (k ≤ 4))))]) (fun _ => []) (fun _ => True) ?_ ?_
  · refine TE_dec (fun hf1 => ?_) (fun hf1 => ?_)
    · refine TE_gq rfl rfl rfl rfl (RD.move rfl) rfl ?_
      refine TE_gq rfl rfl rfl rfl (RD.leq rfl rfl) rfl ?_
      refine TE_q rfl rfl (RD.pickT rfl rfl) rfl ?_
      refine TE_q rfl rfl (RD.assign rfl) rfl ?_
      refine TE_nil0 ?_
      exact pn_give () trivial ⟨congrArg (fun b => some (Value.bool b)) (by first | (simp [hf1]; done) | (simp only [decide_eq_true hf1]; rfl) | (simp only [decide_eq_true hf1]; simp; done)), trivial⟩ (fun _ hw => hw.sp (fun a => by simp -failIfUnchanged <;> omega))
    · refine TE_s rfl rfl rfl rfl rfl ?_
      refine TE_s rfl rfl rfl rfl rfl ?_
      refine TE_q rfl rfl (RD.pickF rfl rfl) rfl ?_
      refine TE_q rfl rfl (RD.assign rfl) rfl ?_
      refine TE_nil0 ?_
      exact pn_give () trivial ⟨congrArg (fun b => some (Value.bool b)) (by first | (simp [hf1]; done) | (simp only [decide_eq_false hf1]; rfl) | (simp only [decide_eq_false hf1]; simp; done)), trivial⟩ (fun _ hw => hw.sp (fun a => by simp -failIfUnchanged <;> omega))
  rintro _ -
  refine pn_ret ?_
  exact pn_doneS [] rfl rfl ⟨rfl, rfl⟩ (fun _ => Nat.zero_le _) (fun _ he => nomatch he)

theorem c_commitMay (x : Ob) (xd : Value) (xe : Value) (xp : Value) (HX : Mem) (w : World) (hbxd : Rdb HX xd x.data) (hbxe : Rdx 34 (entC) HX xe x.ents) (hbxp : Rdx 32 (idC) HX xp x.pars) (hox : ObOk x) (hH : Hp HX w) : Calls Tryz.prog 205 #[objV x xd xe xp] w (Ret w [] fun v H1 => v = .bool ((parsB x.pars) && (decide ((x.m.size : Int) ≤ 200))) ∧ H1 = []) := by
  have hw1 := hox.d; have hw2 := hox.e; have hw3 := hox.p; have hw4 := hox.m; have hwe := hox.en
  refine fn_enter (args := [_]) Tryz.func205 rfl Tryz.ntmps205 rfl hH ?_
  refine pn_seq ?_
  refine pn_plain [] rfl ?_
  refine TE_boxC (objV x xd xe xp).cells rfl rfl rfl trivial rfl fun b1 hb1 => ?_
  refine TE_q rfl rfl (RD.assign rfl) rfl ?_
  refine TE_nil0 ?_
  refine pn_seq ?_
  refine pn_drawG [2, 3, 8, 10, 13, 14, 20] [] ((b1, .cells (objV x xd xe xp).cells 177 (0, 0)) :: HX) rfl rfl (by kernel_rfl) (fun a => by simp -failIfUnchanged <;> omega) ?_
  refine TE_q rfl rfl (RD.fieldAddr (o := 0) Tryz.runUnderlying177 rfl rfl Tryz.sizeOf48 rfl) rfl ?_
  refine TE_q rfl rfl (RD.fieldAddr (o := 35) Tryz.runUnderlying48 rfl rfl Tryz.sizeOf44 rfl) rfl ?_
  refine TE_q rfl rfl (RD.load (i := 0) (v := xp) Tryz.isAgg44 rfl rfl rfl) rfl ?_
  refine TE_q rfl rfl (RD.lenX Tryz.runUnderlying44 rfl hbxp) rfl ?_
  refine TE_q rfl rfl (RD.leq rfl rfl) rfl ?_
  refine TE_q rfl rfl (RD.move rfl) rfl ?_
  refine TE_join (σ := Unit) (fun _ => [(2, .bool ((decide ((x.pars.length : Int) ≤ 4)) && ((uniqB x.pars) && (decide ((x.m.size : Int) ≤ 200)))))]) (fun _ => ((b1, .cells (objV x xd xe xp).cells 177 (0, 0)) :: HX)) (fun _ => True) ?_ ?_
  · refine TE_dec (fun hf1 => ?_) (fun hf1 => ?_)
    · refine TE_gq rfl rfl rfl rfl (RD.fieldAddr (o := 0) Tryz.runUnderlying177 rfl rfl Tryz.sizeOf48 rfl) rfl ?_
      refine TE_gq rfl rfl rfl rfl (RD.fieldAddr (o := 35) Tryz.runUnderlying48 rfl rfl Tryz.sizeOf44 rfl) rfl ?_
      refine TE_gq rfl rfl rfl rfl (RD.load (i := 0) (v := xp) Tryz.isAgg44 rfl rfl rfl) rfl ?_
      refine TE_callG _ HX rfl rfl ⟨_, rfl, rfl⟩ Tryz.call48 rfl rfl rfl (fun w hw => c_hashSet HX xp x.pars w (hbxp.mono (fun _ hw => hw.sp (fun a => by simp -failIfUnchanged <;> omega))) hox.pc hox.pk (by omega) (hw.sp (fun a => by simp -failIfUnchanged <;> omega))) (fun a => by simp -failIfUnchanged <;> omega) ?_
      rintro v8 H9 ⟨ts2, st4, hset3, hbo5, rfl, rfl⟩ hX6
      have hRD7 : Rdx 32 (idC) (bldMx 36 (idC) ts2 st4) (bldVx ts2 st4) ts2 := hbo5.rdx (u := 36) idC_len
      refine TE_sp (bldMx 36 (idC) ts2 st4) (fun a => by simp -failIfUnchanged <;> omega) ?_
      refine TE_gq rfl rfl rfl rfl (RD.lenX Tryz.runUnderlying44 rfl hRD7) rfl ?_
      refine TE_gq rfl rfl rfl rfl (RD.fieldAddr (o := 0) Tryz.runUnderlying177 rfl rfl Tryz.sizeOf48 rfl) rfl ?_
      refine TE_gq rfl rfl rfl rfl (RD.fieldAddr (o := 35) Tryz.runUnderlying48 rfl rfl Tryz.sizeOf44 rfl) rfl ?_
      refine TE_gq rfl rfl rfl rfl (RD.load (i := 0) (v := xp) Tryz.isAgg44 rfl rfl rfl) rfl ?_
      refine TE_gq rfl rfl rfl rfl (RD.lenX Tryz.runUnderlying44 rfl hbxp) rfl ?_
      refine TE_gq rfl rfl rfl rfl (RD.as (v := .bool (uniqB x.pars)) (RD.eql rfl rfl) (congrArg Value.bool (setOf_uniq hset3 hox.pc))) rfl ?_
      refine TE_q rfl rfl (RD.pickT rfl rfl) rfl ?_
      refine TE_q rfl rfl (RD.move rfl) rfl ?_
      refine TE_bool (fun hf10 => ?_) (fun hf10 => ?_)
      · refine TE_gq rfl rfl rfl rfl (RD.fieldAddr (o := 0) Tryz.runUnderlying177 rfl rfl Tryz.sizeOf48 rfl) rfl ?_
        refine TE_gq rfl rfl rfl rfl (RD.fieldAddr (o := 69) Tryz.runUnderlying48 rfl rfl Tryz.sizeOf9 rfl) rfl ?_
        refine TE_gq rfl rfl rfl rfl (RD.load (i := 0) (v := .string x.m) Tryz.isAgg9 rfl rfl rfl) rfl ?_
        refine TE_callG _ [] rfl rfl ⟨_, rfl, rfl⟩ Tryz.call207 rfl rfl rfl (fun w hw => c_said x.m w (by first | assumption | omega | (simp; done) | (simp; omega)) (hw.sp (fun a => by simp -failIfUnchanged <;> omega))) (fun a => by simp -failIfUnchanged <;> omega) ?_
        rintro v11 H12 ⟨rfl, rfl⟩ -
        refine TE_q rfl rfl (RD.pickT rfl rfl) rfl ?_
        refine TE_q rfl rfl (RD.assign rfl) rfl ?_
        refine TE_nil ?_
        exact pn_give () trivial ⟨congrArg (fun b => some (Value.bool b)) (by first | (simp [hf1, hf10]; done) | (simp only [decide_eq_true hf1, hf10]; rfl) | (simp only [decide_eq_true hf1, hf10]; simp; done)), trivial⟩ (fun _ hw => hw.sp (fun a => by simp -failIfUnchanged <;> omega))
      · refine TE_s rfl rfl rfl rfl rfl ?_
        refine TE_s rfl rfl rfl rfl rfl ?_
        refine TE_s rfl rfl rfl rfl rfl ?_
        refine TE_s rfl rfl rfl rfl rfl ?_
        refine TE_q rfl rfl (RD.pickF rfl rfl) rfl ?_
        refine TE_q rfl rfl (RD.assign rfl) rfl ?_
        refine TE_nil ?_
        exact pn_give () trivial ⟨congrArg (fun b => some (Value.bool b)) (by first | (simp [hf1, hf10]; done) | (simp only [decide_eq_true hf1, hf10]; rfl) | (simp only [decide_eq_true hf1, hf10]; simp; done)), trivial⟩ (fun _ hw => hw.sp (fun a => by simp -failIfUnchanged <;> omega))
    · refine TE_s rfl rfl rfl rfl rfl ?_
      refine TE_s rfl rfl rfl rfl rfl ?_
      refine TE_s rfl rfl rfl rfl rfl ?_
      refine TE_s rfl rfl rfl rfl rfl ?_
      refine TE_s rfl rfl rfl rfl rfl ?_
      refine TE_s rfl rfl rfl rfl rfl ?_
      refine TE_s rfl rfl rfl rfl rfl ?_
      refine TE_s rfl rfl rfl rfl rfl ?_
      refine TE_s rfl rfl rfl rfl rfl ?_
      refine TE_s rfl rfl rfl rfl rfl ?_
      refine TE_q rfl rfl (RD.pickF rfl rfl) rfl ?_
      refine TE_q rfl rfl (RD.move rfl) rfl ?_
      refine TE_s rfl rfl rfl rfl rfl ?_
      refine TE_s rfl rfl rfl rfl rfl ?_
      refine TE_s rfl rfl rfl rfl rfl ?_
      refine TE_s rfl rfl rfl rfl rfl ?_
      refine TE_q rfl rfl (RD.pickF rfl rfl) rfl ?_
      refine TE_q rfl rfl (RD.assign rfl) rfl ?_
      refine TE_nil ?_
      exact pn_give () trivial ⟨congrArg (fun b => some (Value.bool b)) (by first | (simp [hf1]; done) | (simp only [decide_eq_false hf1]; rfl) | (simp only [decide_eq_false hf1]; simp; done)), trivial⟩ (fun _ hw => hw.sp (fun a => by simp -failIfUnchanged <;> omega))
  rintro _ -
  refine pn_ret ?_
  exact pn_doneS [] rfl rfl ⟨(congrArg Value.bool cmay_eq), rfl⟩ (fun _ => Nat.zero_le _) (fun _ he => nomatch he)

theorem c_tagMay (x : Ob) (xd : Value) (xe : Value) (xp : Value) (HX : Mem) (w : World) (hbxd : Rdb HX xd x.data) (hbxe : Rdx 34 (entC) HX xe x.ents) (hbxp : Rdx 32 (idC) HX xp x.pars) (hox : ObOk x) (hH : Hp HX w) : Calls Tryz.prog 210 #[objV x xd xe xp] w (Ret w [] fun v H1 => v = .bool (((decide (1 ≤ x.tg.k)) && (decide (x.tg.k ≤ 4))) && (decide ((x.m.size : Int) ≤ 200))) ∧ H1 = []) := by
  have hw1 := hox.d; have hw2 := hox.e; have hw3 := hox.p; have hw4 := hox.m; have hwe := hox.en
  refine fn_enter (args := [_]) Tryz.func210 rfl Tryz.ntmps210 rfl hH ?_
  refine pn_seq ?_
  refine pn_plain [] rfl ?_
  refine TE_boxC (objV x xd xe xp).cells rfl rfl rfl trivial rfl fun b1 hb1 => ?_
  refine TE_q rfl rfl (RD.assign rfl) rfl ?_
  refine TE_nil0 ?_
  refine pn_seq ?_
  refine pn_plain [] rfl ?_
  refine TE_q rfl rfl (RD.fieldAddr (o := 0) Tryz.runUnderlying178 rfl rfl Tryz.sizeOf48 rfl) rfl ?_
  refine TE_q rfl rfl (RD.fieldAddr (o := 36) Tryz.runUnderlying48 rfl rfl Tryz.sizeOf46 rfl) rfl ?_
  refine TE_q rfl rfl (RD.fieldAddr (o := 36) Tryz.runUnderlying46 rfl rfl Tryz.sizeOf3 rfl) rfl ?_
  refine TE_l rfl rfl trivial rfl (RD.load (i := 0) (v := .int .i64 x.tg.k) Tryz.isAgg3 rfl rfl rfl) rfl ?_
  refine TE_callG _ [] rfl rfl trivial Tryz.call212 rfl rfl rfl (fun w hw => c_known x.tg.k w  (hw.sp (fun a => by simp -failIfUnchanged <;> omega))) (fun a => by simp -failIfUnchanged <;> omega) ?_
  rintro v1 H2 ⟨rfl, rfl⟩ -
  refine TE_q rfl rfl (RD.move rfl) rfl ?_
  refine TE_join (σ := Unit) (fun _ => [(2, .bool (((decide (1 ≤ x.tg.k)) && (decide (x.tg.k ≤ 4))) && (decide ((x.m.size : Int) ≤ 200))))]) (fun _ => ((b1, .cells (objV x xd xe xp).cells 178 (0, 0)) :: HX)) (fun _ => True) ?_ ?_
  · refine TE_bool (fun hf3 => ?_) (fun hf3 => ?_)
    · refine TE_gq rfl rfl rfl rfl (RD.fieldAddr (o := 0) Tryz.runUnderlying178 rfl rfl Tryz.sizeOf48 rfl) rfl ?_
      refine TE_gq rfl rfl rfl rfl (RD.fieldAddr (o := 69) Tryz.runUnderlying48 rfl rfl Tryz.sizeOf9 rfl) rfl ?_
      refine TE_l rfl rfl ⟨_, rfl, rfl⟩ rfl (RD.load (i := 0) (v := .string x.m) Tryz.isAgg9 rfl rfl rfl) rfl ?_
      refine TE_callG _ [] rfl rfl ⟨_, rfl, rfl⟩ Tryz.call207 rfl rfl rfl (fun w hw => c_said x.m w (by first | assumption | omega | (simp; done) | (simp; omega)) (hw.sp (fun a => by simp -failIfUnchanged <;> omega))) (fun a => by simp -failIfUnchanged <;> omega) ?_
      rintro v4 H5 ⟨rfl, rfl⟩ -
      refine TE_q rfl rfl (RD.pickT rfl rfl) rfl ?_
      refine TE_q rfl rfl (RD.assign rfl) rfl ?_
      refine TE_nil0 ?_
      exact pn_give () trivial ⟨congrArg (fun b => some (Value.bool b)) (by first | (simp [hf3]; done) | (simp only [hf3]; rfl) | (simp only [hf3]; simp; done)), trivial⟩ (fun _ hw => hw.sp (fun a => by simp -failIfUnchanged <;> omega))
    · refine TE_s rfl rfl rfl rfl rfl ?_
      refine TE_s rfl rfl rfl rfl rfl ?_
      refine TE_s rfl rfl rfl rfl rfl ?_
      refine TE_s rfl rfl rfl rfl rfl ?_
      refine TE_q rfl rfl (RD.pickF rfl rfl) rfl ?_
      refine TE_q rfl rfl (RD.assign rfl) rfl ?_
      refine TE_nil0 ?_
      exact pn_give () trivial ⟨congrArg (fun b => some (Value.bool b)) (by first | (simp [hf3]; done) | (simp only [hf3]; rfl) | (simp only [hf3]; simp; done)), trivial⟩ (fun _ hw => hw.sp (fun a => by simp -failIfUnchanged <;> omega))
  rintro _ -
  refine pn_ret ?_
  exact pn_doneS [] rfl rfl ⟨rfl, rfl⟩ (fun _ => Nat.zero_le _) (fun _ he => nomatch he)

end Go.Proofs.YtloljpefdecmhaaGreatDoor
