/- The rules in bundles, for the rewriter. -/
import Derived.Test.YtpaffoiiipgkeaaDoorAb16
namespace Go.Proofs.YtpaffoiiipgkeaaDoor.Ab
open Go.RowKit
set_option linter.unusedVariables false
set_option linter.defProp false

section
variable {τ : Tm} {v : Value} {t : Nat}
theorem e_tmp : ev τ (.tmp t) = τ t := (rfl)
theorem e_const : ev τ (.const v) = some v := (rfl)
theorem e_func {f : FuncId} : ev τ (.func f) = some (.func (.func f) #[] #[]) := (rfl)
theorem e_global {g : Nat} : ev τ (.global g) = some (.pointer (some ⟨g, 0, none⟩)) := (rfl)
theorem upd_eq {u : Nat} : upd τ t v u = if u = t then some v else τ u := (rfl)
theorem updO_some : updO τ (some t) v = upd τ t v := (rfl)
theorem updO_none : updO τ none v = τ := (rfl)
theorem setb_tmp {b : Bool} : setb τ (.tmp t) b = upd τ t (.bool b) := (rfl)
theorem setb_const {b : Bool} : setb τ (.const v) b = τ := (rfl)
theorem slots_eq {args : List Value} : slots0 args t = some (args.getD t undef) := (rfl)
theorem retv_one : retv [v] = v := (rfl)
theorem retv_none : retv [] = .tuple #[] := (rfl)
theorem retv_more {u : Value} {l : List Value} : retv (v :: u :: l) = .tuple (v :: u :: l).toArray := (rfl)
theorem cells_agg {xs : Array Value} : (Value.agg xs).cells = xs := (rfl)
theorem cells_int {k : IntKind} {n : Int} : (Value.int k n).cells = [Value.int k n].toArray := (rfl)
theorem cells_bool {b : Bool} : (Value.bool b).cells = [Value.bool b].toArray := (rfl)
theorem cells_string {b : ByteArray} : (Value.string b).cells = [Value.string b].toArray := (rfl)
theorem cells_pointer {b : Option Addr} : (Value.pointer b).cells = [Value.pointer b].toArray := (rfl)
theorem cells_slice {b : Option Addr} {n c : Nat} : (Value.slice b n c).cells = [Value.slice b n c].toArray := (rfl)
theorem cells_tuple {xs : Array Value} : (Value.tuple xs).cells = [Value.tuple xs].toArray := (rfl)
theorem cells_undef : undef.cells = [undef].toArray := (rfl)
theorem places_st {fs : List (Nat × Nat × TypeId)} : placesOf (.st fs) = fs := (rfl)
theorem ones_eq {v : Value} : ones v = v.cells.toList.all Value.oneCell' := (rfl)
theorem zc_bool {b : Bool} : zc (.bool b) = true := (rfl)
theorem zc_int {k : IntKind} {n : Int} : zc (.int k n) = true := (rfl)
theorem zc_string {b : ByteArray} : zc (.string b) = true := (rfl)
theorem zc_ptr : zc (.pointer none) = true := (rfl)
theorem zc_slice {n c : Nat} : zc (.slice none n c) = true := (rfl)
theorem zc_map : zc (.map none) = true := (rfl)
theorem zc_func : zc .nilFunc = true := (rfl)
theorem one_bool {b : Bool} : (Value.bool b).oneCell' = true := (rfl)
theorem one_int {k : IntKind} {n : Int} : (Value.int k n).oneCell' = true := (rfl)
theorem one_string {b : ByteArray} : (Value.string b).oneCell' = true := (rfl)
theorem one_ptr {p : Option Addr} : (Value.pointer p).oneCell' = true := (rfl)
theorem one_slice {p : Option Addr} {n c : Nat} : (Value.slice p n c).oneCell' = true := (rfl)
theorem one_map {p : Option Nat} : (Value.map p).oneCell' = true := (rfl)
theorem one_func {f : Fn} {a b : Array Value} : (Value.func f a b).oneCell' = true := (rfl)
theorem all_cons {f : Value → Bool} {v : Value} {l : List Value} : (v :: l).all f = (f v && l.all f) := (rfl)
theorem all_nil {f : Value → Bool} : ([] : List Value).all f = true := (rfl)
theorem and_t {b : Bool} : (b && true) = b := by cases b <;> rfl
theorem t_and {b : Bool} : (true && b) = b := (rfl)
theorem wr_nil {cs : List Value} {o : Nat} : wr cs o [] = cs := (rfl)
theorem wr_cons {cs vs : List Value} {o : Nat} : wr cs o (v :: vs) = wr (cs.set o v) (o + 1) vs := (rfl)
end

/-- Steps, from above. -/
def R1 := And.intro @r_skip (And.intro @r_exit (And.intro @r_ret (And.intro @r_region (And.intro @r_regionD (And.intro @r_seq (And.intro @r_block (And.intro @k_then (And.intro @k_then_ret (And.intro @k_then_exit (And.intro @k_block (And.intro @k_block_ret (And.intro @k_block_here (And.intro @k_done (And.intro @k_done_ret (And.intro @k_loop_ret (And.intro @k_loop_exit (And.intro @r_cond (And.intro @r_nil (And.intro @r_op (And.intro @r_guard (And.intro @r_move (And.intro @r_assign (And.intro @r_pick (And.intro @r_alloc (And.intro @r_box (And.intro @r_nilCheck (And.intro @r_bin (And.intro @r_not (And.intro @r_neg (And.intro @r_extract (And.intro @r_load (And.intro @r_store (And.intro @r_fieldAddr (And.intro @r_field (And.intro @r_makeFunc (And.intro @r_call (And.intro @r_build (And.intro @r_buildSlice (And.intro @r_makeSlice (And.intro @r_slice (And.intro @r_indexAddr (And.intro @r_index (And.intro @r_len (And.intro @r_append (And.intro @r_min (And.intro @r_max @r_convert))))))))))))))))))))))))))))))))))))))))))))))
/-- Values. -/
def R2 := And.intro @bO_some (And.intro @bI_int (And.intro @bB_bool (And.intro @bS_str (And.intro @bP_ptr (And.intro @bA_agg (And.intro @bT_tuple (And.intro @bF_func (And.intro @brI_true (And.intro @brI_false (And.intro @brI_dec (And.intro @brI_not (And.intro @agd_yes (And.intro @agd_no (And.intro @agd_undef (And.intro @side_true (And.intro @nilC_ptr (And.intro @nilC_func (And.intro @readT_agg (And.intro @readT_one (And.intro @r_rdn0 (And.intro @r_rdn (And.intro @stB_row (And.intro @partT_agg (And.intro @partT_one (And.intro @r_evs0 (And.intro @r_evs (And.intro @r_evp0 (And.intro @r_evp (And.intro @r_res0 (And.intro @r_res (And.intro @r_resc (And.intro @b_add (And.intro @b_cat (And.intro @b_sub (And.intro @b_mul (And.intro @b_quo (And.intro @b_rem (And.intro @b_or (And.intro @b_and (And.intro @b_shl (And.intro @b_shr (And.intro @b_lss (And.intro @b_leq (And.intro @b_gtr (And.intro @b_geq (And.intro @b_eql (And.intro @b_neq (And.intro @b_eqs (And.intro @b_nes (And.intro @putL_nil (And.intro @putL_cons (And.intro @bldT_st (And.intro @bldT_arr (And.intro @slT_sl (And.intro @aLo_none (And.intro @aHi_none (And.intro @aLo_some (And.intro @aHi_some (And.intro @aSlc_str (And.intro @aSlc_nil (And.intro @aSlc_sl (And.intro @aSlc_ptr (And.intro @arT_arr (And.intro @rowB_row (And.intro @b_eqb (And.intro @b_neb (And.intro @b_eqa (And.intro @b_nea (And.intro @b_eqn (And.intro @b_nen (And.intro @b_eqp (And.intro @b_nep (And.intro @isSl_sl (And.intro @isPtr_ptr (And.intro @ixA_sl (And.intro @ixA_arr (And.intro @ixV_str (And.intro @ixV_arr (And.intro @lnV_str (And.intro @lnV_sl (And.intro @lnV_arr (And.intro @twoI_two (And.intro @cnv_int (And.intro @cnv_bytes (And.intro @cnv_str (And.intro @e_tmp (And.intro @e_const (And.intro @e_func (And.intro @e_global (And.intro @upd_eq (And.intro @updO_some (And.intro @updO_none (And.intro @setb_tmp (And.intro @setb_const (And.intro @slots_eq (And.intro @retv_one (And.intro @retv_none (And.intro @retv_more (And.intro @aadd_mk (And.intro @aadd_aadd (And.intro @get_push_new (And.intro @get_put_same (And.intro @get_glob (And.intro @cells_agg (And.intro @cells_int (And.intro @cells_bool (And.intro @cells_string (And.intro @cells_pointer (And.intro @cells_slice (And.intro @cells_tuple (And.intro @cells_undef (And.intro @places_st (And.intro @wr_nil (And.intro @wr_cons (And.intro @ones_eq (And.intro @zc_bool (And.intro @zc_int (And.intro @zc_string (And.intro @zc_ptr (And.intro @zc_slice (And.intro @zc_map (And.intro @zc_func (And.intro @one_bool (And.intro @one_int (And.intro @one_string (And.intro @one_ptr (And.intro @one_slice (And.intro @one_map (And.intro @one_func (And.intro @all_cons (And.intro @all_nil (And.intro @and_t @t_and))))))))))))))))))))))))))))))))))))))))))))))))))))))))))))))))))))))))))))))))))))))))))))))))))))))))))))))))))))))))))))))))))))
/-- Lists, heaps, truth. -/
def R3 := And.intro @List.getElem?_toArray.{0} (And.intro @Hp.push_blk (And.intro @Hp.put_blk (And.intro @Hp.push_next (And.intro @Hp.put_next (And.intro @Nat.add_zero (And.intro @Nat.zero_add (And.intro @ne_eq.{1} (And.intro @not_false_eq_true (And.intro @not_true_eq_false (And.intro @List.nil_append.{0} (And.intro @List.cons_append.{0} (And.intro @true_and (And.intro @and_true (And.intro @Bool.not_true (And.intro @Bool.not_false (And.intro @true_implies (And.intro @false_imp_iff (And.intro @and_self (And.intro @List.getD_cons_zero.{0} (And.intro @List.getD_cons_succ.{0} (And.intro @List.getD_nil.{0} (And.intro @List.getElem?_cons_zero.{0} (And.intro @List.getElem?_cons_succ.{0} (And.intro @List.getElem?_nil.{0} (And.intro @Option.bind_some.{0,0} (And.intro @Option.map_some.{0,0} (And.intro @Option.getD_some.{0} (And.intro @Option.getD_none.{0} (And.intro @List.size_toArray.{0} (And.intro @List.length_cons.{0} (And.intro @List.length_nil.{0} (And.intro @List.set_cons_zero.{0} @List.set_cons_succ.{0}))))))))))))))))))))))))))))))))

end Go.Proofs.YtpaffoiiipgkeaaDoor.Ab
