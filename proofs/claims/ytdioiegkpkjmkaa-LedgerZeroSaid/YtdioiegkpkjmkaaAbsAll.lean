/-
  All of the own layer; the reckoning's equations in few words.
-/
import Derived.Test.YtdioiegkpkjmkaaAbsD
namespace Go.Pa
def VB0 := And.intro @vc_seq (And.intro @vc_block (And.intro @vc_exit (And.intro @vc_ret (And.intro @vc_skip (And.intro @vc_region (And.intro @vc_draw (And.intro @vc_loop (And.intro @vc_range (And.intro @vc_cond (And.intro @condV_true (And.intro @condV_false (And.intro @seqK_normal (And.intro @seqK_ret (And.intro @seqK_exit (And.intro @blkK_normal (And.intro @blkK_ret (And.intro @blkK_exit (And.intro @loopK_ret @loopK_exit))))))))))))))))))
def VB1 := And.intro @loopK_normal (And.intro @vcOps_nil (And.intro @vcOps_cons (And.intro @vcOps_guardM (And.intro @guardM_some (And.intro @guardV_und (And.intro @guardV_same (And.intro @guardV_tf (And.intro @guardV_ft (And.intro @vcOp_out (And.intro @outV_val (And.intro @outV_need (And.intro @outV_no (And.intro @opK_run (And.intro @opK_none (And.intro @cO_int (And.intro @cO_bool (And.intro @cO_str (And.intro @cO_nils @cO_emp))))))))))))))))))
def VB2 := And.intro @cO_ints (And.intro @cO_rows (And.intro @cO_mvec (And.intro @cO_ptr (And.intro @cO_eptr (And.intro @cO_iptr (And.intro @cO_nilp (And.intro @cO_fn (And.intro @cO_nilf (And.intro @cO_mp (And.intro @cO_nilm (And.intro @cO_glob (And.intro @cO_agg (And.intro @vcE_nil (And.intro @vcE_cons (And.intro @vcE_guardM (And.intro @guardME_some (And.intro @guardD_und (And.intro @guardD_same @guardD_tf))))))))))))))))))
def VB3 := And.intro @guardD_ft (And.intro @dK_run (And.intro @dK_none (And.intro @dOp_call (And.intro @callA_fn (And.intro @outA_val (And.intro @outA_need (And.intro @evO_tmp (And.intro @evO_int (And.intro @evO_bool (And.intro @evO_nils (And.intro @evO_nilp (And.intro @evO_nilf (And.intro @evO_nilm (And.intro @evO_str (And.intro @evO_func (And.intro @evO_glob (And.intro @lookA_cons (And.intro @get_cons @sub_cons))))))))))))))))))
def VB4 := And.intro @sub_nil (And.intro @retK_ret (And.intro @retK_normal (And.intro @vcR_skip (And.intro @vcR_seq (And.intro @vcR_block (And.intro @vcR_exit (And.intro @vcR_ret (And.intro @vcR_region (And.intro @vcR_draw (And.intro @vcR_cond (And.intro @condR_true (And.intro @condR_false (And.intro @seqR_normal (And.intro @seqR_ret (And.intro @seqR_exit (And.intro @sto_assoc (And.intro @sto_len (And.intro @sto_at @sto_at0))))))))))))))))))
def VB5 := And.intro @sto_set (And.intro @sto_set0 (And.intro @ansL_t @ansL_f))
def VB := And.intro @VB0 (And.intro @VB1 (And.intro @VB2 (And.intro @VB3 (And.intro @VB4 @VB5))))
end Go.Pa
