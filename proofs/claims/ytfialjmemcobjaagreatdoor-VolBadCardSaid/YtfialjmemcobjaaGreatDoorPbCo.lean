/- A part of the proof. -/
import Derived.Calls
import Derived.Handy
import Derived.KernelRfl
import Derived.Lib.Hide
import Derived.Test.YtfialjmemcobjaaGreatDoorRows
set_option maxRecDepth 100000
set_option maxHeartbeats 16000000
set_option linter.unusedVariables false
set_option linter.unusedSimpArgs false
namespace Go.Proofs.YtfialjmemcobjaaGreatDoor
open Go Go.RowKit
theorem O {p:Prop} (h:p:=by omega):p:=h
theorem J {p:Prop} (h:p:=by kernel_rfl):p:=h
theorem U {p:Prop} (h:p:=by simp):p:=h
theorem D {p:Prop} (h:p:=by decide):p:=h
theorem E {p:Prop} (h:p:=by first|omega|(simp <;> omega)):p:=h
theorem G {p:Prop} (h:p:=by repeat (first|exact Below.refl _ _|refine Below.drew ?_|refine Below.alloc ?_ (by first|omega|(simp <;> omega)) _)):p:=h
theorem P {p:Prop} (h:p:=by repeat (first|with_reducible exact Below.refl _ _|refine Below.drew ?_)):p:=h
theorem B0 {b:Nat} {w:World}:Below b w w:=Below.refl _ _
theorem N0 {n:Nat}:n<=n:=Nat.le_refl _
theorem Zx {α:Type _} (a:α):∃x,a=x:=⟨a,rfl⟩
theorem _root_.Go.RowKit.Hid.o {p:Prop} (h:Hid p):p:=h.out
structure I0 where
def I:I0:=⟨⟩
def C:I0×I0:=⟨⟨⟩,⟨⟩⟩
instance:CoeFun I0 (fun _=>Int→Value):=⟨fun _=>.int .i64⟩
instance:CoeFun (I0×I0) (fun _=>FuncId→Array Value→World→(Ending→World→Prop)→Prop):=⟨fun _=>Calls Tryz.prog⟩
instance (a b:Nat):CoeDep (Nat×Nat) (a,b) Addr:=⟨⟨a,b,none⟩⟩
instance (a b:Nat):CoeDep (Nat×Nat) (a,b) Value:=⟨.pointer (some ⟨a,b,none⟩)⟩
instance (w:World) (b:Nat):CoeDep (World×Nat) (w,b) Addr:=⟨⟨w.heap.size,b,none⟩⟩
instance (w:World) (b:Nat):CoeDep (World×Nat) (w,b) Value:=⟨.pointer (some ⟨w.heap.size,b,none⟩)⟩
instance (a b:Nat):CoeDep (Option (Nat×Nat)) (some (a,b)) (Option Value):=⟨some (.pointer (some ⟨a,b,none⟩))⟩
instance (a b:Nat):CoeDep (Option (Nat×Nat)) (some (a,b)) (Option Addr):=⟨some ⟨a,b,none⟩⟩
instance (w:World) (b:Nat):CoeDep (Option (World×Nat)) (some (w,b)) (Option Value):=⟨some (.pointer (some ⟨w.heap.size,b,none⟩))⟩
instance (w:World) (b:Nat):CoeDep (Option (World×Nat)) (some (w,b)) (Option Addr):=⟨some ⟨w.heap.size,b,none⟩⟩
theorem Q2 {a b:Prop} (q:a) (r:b):Hid a/\Hid b:=⟨q,r⟩
theorem Q3 {a b c:Prop} (q:a) (r:b) (s:c):Hid a/\Hid b/\Hid c:=⟨q,r,s⟩
theorem Q4 {a b c d:Prop} (q:a) (r:b) (s:c) (t:d):Hid a/\Hid b/\Hid c/\Hid d:=⟨q,r,s,t⟩
theorem Q5 {a b c d e:Prop} (q:a) (r:b) (s:c) (t:d) (u:e):Hid a/\Hid b/\Hid c/\Hid d/\Hid e:=⟨q,r,s,t,u⟩
theorem Q6 {a b c d e f:Prop} (q:a) (r:b) (s:c) (t:d) (u:e) (v:f):Hid a/\Hid b/\Hid c/\Hid d/\Hid e/\Hid f:=⟨q,r,s,t,u,v⟩
theorem Q7 {a b c d e f g:Prop} (q:a) (r:b) (s:c) (t:d) (u:e) (v:f) (w:g):Hid a/\Hid b/\Hid c/\Hid d/\Hid e/\Hid f/\Hid g:=⟨q,r,s,t,u,v,w⟩
theorem Q8 {a b c d e f g h:Prop} (q:a) (r:b) (s:c) (t:d) (u:e) (v:f) (w:g) (x:h):Hid a/\Hid b/\Hid c/\Hid d/\Hid e/\Hid f/\Hid g/\Hid h:=⟨q,r,s,t,u,v,w,x⟩
instance:Coe World Nat:=⟨fun w=>w.heap.size⟩
set_option linter.defProp false
def QxH:=@Go.Addr.add_lit
def QyB:=@Array.getElem?_eq_some_iff
def QyE:=@Array.size_append
def QjK:=@Go.RowKit.Below.alloc
def QqZ:=@Go.RowKit.Below.drew
def QuF:=@Go.RowKit.Below.heap_alloc
def QqA:=@Go.RowKit.Below.refl
def QxY:=@Go.RowKit.Below.setCell
def QxB:=@Go.RowKit.Below.trans
def QzC:=@Bool.and_eq_true
def QuJ:=@Bool.false_eq_true
def QuT:=@Bool.or_eq_true
def QiL:=@ByteArray.append_assoc
def QiE:=@ByteArray.data_extract
def QyW:=@ByteArray.ext
def QiK:=@ByteArray.extract_append
def QiG:=@ByteArray.extract_append_eq_left
def QiF:=@ByteArray.extract_extract
def QjT:=@ByteArray.size_append
def QjJ:=@ByteArray.size_extract
def QiH:=@Go.DataW.trod_int
def QyP:=@Function.comp_def
def QoX:=@Iff.rfl
def QyM:=@Int.eq_ofNat_of_zero_le
def QxL:=@Int.le_refl
def QiJ:=@Int.le_trans
def QgR:=@Int.lt_trichotomy
def QgG:=@Int.mul_le_mul_of_nonneg_right
def QkD:=@Int.natCast_nonneg
def QuZ:=@Int.natCast_succ
def QyD:=@Int.toNat_natCast
def QqN:=@Go.IntKind.wrap_i64
def QgH:=@List.all_append
def QxK:=@List.all_eq_true
def QqU:=@List.append_assoc
def QzT:=@List.append_nil
def QoV:=@List.cons.injEq
def QjW:=@List.cons_append
def QkM:=@List.drop_eq_getElem_cons
def QjS:=@List.eq_nil_of_length_eq_zero
def QyR:=@List.ext_getElem?
def QjZ:=@List.filter_append
def QgB:=@List.filter_append_perm
def QgN:=@List.filter_congr
def QkX:=@List.filter_cons
def QjH:=@List.filter_cons_of_neg
def QxN:=@List.filter_cons_of_pos
def QjX:=@List.filter_eq_nil_iff
def QjD:=@List.filter_eq_self
def QxF:=@List.filter_map
def QgE:=@List.find?_cons
def QuN:=@List.find?_eq_none
def QuP:=@List.find?_some
def QjV:=@List.findIdx?_eq_none_iff
def QkP:=@List.findIdx?_eq_some_iff_getElem
def QqV:=@List.flatMap_cons
def QjB:=@List.flatMap_map
def QyK:=@List.flatMap_nil
def QkH:=@List.getD_eq_getElem?_getD
def QzM:=@List.getElem?_append_left
def QzH:=@List.getElem?_append_right
def QyN:=@List.getElem?_cons_succ
def QgC:=@List.getElem?_cons_zero
def QjY:=@List.getElem?_drop
def QqC:=@List.getElem?_eq_getElem
def QkY:=@List.getElem?_eq_none
def QqD:=@List.getElem?_eq_some_iff
def QzF:=@List.getElem?_map
def QxV:=@List.getElem?_range
def QuD:=@List.getElem?_replicate
def QuC:=@List.getElem?_set
def QxD:=@List.getElem?_set_ne
def QiD:=@List.getElem?_set_self
def QxE:=@List.getElem?_take
def QxG:=@List.getElem?_take_of_lt
def QyG:=@List.getElem?_toArray
def QxC:=@List.getElem_of_mem
def QqK:=@List.length_append
def QzN:=@List.length_cons
def QkJ:=@List.length_drop
def QkE:=@List.length_filter_le
def QqT:=@List.length_map
def QoE:=@List.length_set
def QzJ:=@List.length_take
def QqY:=@List.map_append
def QkF:=@List.map_congr_left
def QzE:=@List.map_cons
def QzR:=@List.map_map
def QjE:=@List.map_nil
def QqJ:=@List.mem_append
def QqF:=@List.mem_cons
def QzA:=@List.mem_cons_of_mem
def QzZ:=@List.mem_filter
def QqX:=@List.mem_flatMap
def QkL:=@List.mem_iff_getElem
def QqS:=@List.mem_map
def QjU:=@List.mem_of_find?_eq_some
def QqL:=@List.mem_of_getElem?
def QjG:=@List.mem_of_mem_drop
def QjF:=@List.mem_of_mem_take
def QuX:=@List.mem_range
def QgF:=@List.mem_replicate
def QzG:=@List.mem_singleton
def QjL:=@List.nil_append
def QzP:=@List.nodup_append
def QqP:=@List.nodup_cons
def QkU:=@List.not_mem_nil
def QkA:=@List.pairwise_append
def QzS:=@List.pairwise_cons
def QgU:=@List.pairwise_flatMap
def QkZ:=@List.pairwise_iff_getElem
def QjP:=@List.pairwise_map
def QyS:=@List.range_succ
def QuK:=@List.set_cons_succ
def QjR:=@List.size_toArray
def QuS:=@List.sum_append
def QxX:=@List.sum_cons
def QzW:=@List.take_add_one
def QkB:=@List.take_append_drop
def QzU:=@List.take_length
def QkT:=@List.take_of_length_le
def QkC:=@List.take_succ_eq_append_getElem
def QxW:=@Nat.add_assoc
def QxZ:=@Nat.add_mul
def QiB:=@Nat.add_sub_cancel_left
def QyJ:=@Nat.eq_zero_or_pos
def QyV:=@Nat.le_of_eq
def QqB:=@Nat.le_refl
def QqR:=@Nat.le_trans
def QzB:=@Nat.lt_of_lt_of_le
def QyH:=@Nat.lt_or_ge
def QoK:=@Nat.lt_trichotomy
def QuR:=@Nat.min_eq_left
def QgS:=@Nat.mul_le_mul
def QkV:=@Nat.mul_le_mul_right
def QkN:=@Nat.mul_one
def QyL:=@Nat.sub_mul
def QyU:=@Nat.sub_self
def QkG:=@Nat.zero_add
def QqM:=@Nat.zero_le
def QoN:=@Option.getD_some
def QjA:=@Go.World.block_lt_of_cell?
def QkK:=@Go.World.cell?_alloc_lt
def QgA:=@Go.World.frozen?_alloc_old
def QuL:=@Go.World.ownsRow_made
def QqW:=@Go.World.size_alloc
def QqG:=@Go.bodyPost_ret
def QyF:=@decide_eq_false
def QxA:=@decide_eq_true
def QzD:=@decide_eq_true_eq
def QoZ:=@decide_false
def QoY:=@decide_true
def QoW:=@forall_eq
def QoT:=@forall_eq_or_imp
def QyZ:=@Go.grownCap_le_maxLen
def QzY:=@Go.heap_alloc_new
def QiA:=@if_false
def QqE:=@if_neg
def QqH:=@if_pos
def QyC:=@if_true
def QzX:=@Go.info_parts
def QiC:=@not_false_eq_true
def QuE:=@not_or
def QxM:=@of_decide_eq_true
def QyA:=@or_false
def QoR:=@Go.rounds_succ
def QzV:=@Go.run_callFunc_extern
def QyY:=@Go.run_convert_bytes_arg
def QxS:=@Go.size_zeroCells
def QkW:=@Go.wpList_append_own
def QoU:=@Go.wpStill_nil
def QoS:=@Go.wp_loop_rounds
end Go.Proofs.YtfialjmemcobjaaGreatDoor
