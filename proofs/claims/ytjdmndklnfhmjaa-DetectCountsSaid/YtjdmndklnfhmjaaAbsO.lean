/- The rules of the walk in one set. -/
import Derived.Test.YtjdmndklnfhmjaaAbsN
import Derived.Attr
import Derived.KernelRfl
set_option linter.unusedVariables false
set_option linter.unusedSimpArgs false
set_option linter.unusedSectionVars false
namespace Go.Abs
open Go.RowKit

theorem dlt_t {a b : Int} (h : a < b) : decide (a < b) = true := decide_eq_true h
theorem dlt_f {a b : Int} (h : b ≤ a) : decide (a < b) = false := decide_eq_false (by omega)
theorem dle_t {a b : Int} (h : a ≤ b) : decide (a ≤ b) = true := decide_eq_true h
theorem dle_f {a b : Int} (h : b < a) : decide (a ≤ b) = false := decide_eq_false (by omega)
theorem deq_t {a b : Int} (h : a = b) : (a == b) = true := beq_iff_eq.2 h
theorem deq_f {a b : Int} (h : a ≠ b) : (a == b) = false := beq_eq_false_iff_ne.2 h
theorem dne_t {a b : Int} (h : a ≠ b) : (a != b) = true := bne_iff_ne.2 h
theorem dne_f {a b : Int} (h : a = b) : (a != b) = false := by simp [h]
theorem bltn_append (P : Program) (H : Hp) (ts : List TypeId) (s x : Value) : abuiltin P H .append ts [s, x] = aappend P H ts s x := rfl
theorem bltn_len (P : Program) (H : Hp) (t : TypeId) (ts : List TypeId) (x : Value) : abuiltin P H .len (t :: ts) [x] = (alen P t x).map fun v => (v, H) := rfl
theorem len_slice (P : Program) (t : TypeId) (a : Option Addr) (n c : Nat) : alen P t (.slice a n c) = (match P.underlying t with | some (.slice _) => some (.int .i64 n) | _ => none) := rfl
theorem oget_lit {o : Oper} (l : List Oper) : (l.toArray)[0]? = l[0]? := by simp

attribute [go_sem ↓] awp_skip awp_seq awp_region awp_draw awp_cond awp_block awp_loop awp_exit awp_ret awp_label thenQ_normal thenQ_exit thenQ_ret thenQ_normal' blockQ_normal blockQ_normal' blockQ_ret blockQ_exit awpOps_nil awpOps_cons astep_none astep_some
  o_move o_assign o_pick o_alloc o_box o_build o_buildSlice o_load o_store o_nilCheck o_binOp o_unOp o_convert o_makeFunc o_makeSlice o_slice o_fieldAddr o_field o_indexAddr o_index o_extract o_lookup o_mapEntry o_entryStore o_call o_builtin bindO_some contK_eq guardS_tt guardS_ff guardS_tf guardS_ft guardS_undef condS_true condS_false
attribute [go_sem] params get_cons_eq get_cons_ne put_some put_none aev_tmp aev_func aev_int aev_bool aev_string aev_nil aev_nilp aev_nilf aevs_nil aevs_cons aparts_nil aparts_cons aevo_none aevo_some obind_some omap_some bltn_append bltn_len len_slice callP_some ia_slice ia_ptr fa_ptr idxC_in lt_ptr as_ptr
  b_add b_sub b_mul b_quo b_rem b_eql b_neq b_lss b_leq b_gtr b_geq u_not u_neg wrap_i64 dlt_t dlt_f dle_t dle_f deq_t deq_f dne_t dne_f
  l1_new_old l1_set_old l1_new l1_set ld_new_old ld_set_old ld_new ld_set Hp.next_new Hp.next_set Hp.get_new_ne Hp.get_set_ne Hp.get_new_same Hp.get_set_same
  cond_true cond_false Int.toNat_natCast Nat.mul_one List.head?_cons List.getElem?_toArray List.getElem?_cons_zero List.getElem?_cons_succ
end Go.Abs
