/-
  plan's functions with their answers written out, as far as the guard needs them. No condition beyond what each theorem names.
-/
import Derived.Test.YthmcbgidehjlbaaGreatRmPlanPk
import Derived.Laws.StructEq
namespace Go.Proofs.YthmcbgidehjlbaaGreat.P
open _root_.Go.Proofs.Tryz
open Go Go.RowKit K
def BoxA (w:World) (b:Nat) (x y:Int):Prop:=w.heap[b]?=some (.cells #[.int .i64 x,.int .i64 y] 27 (0,0))
theorem box_new (w:World) (x y:Int):BoxA (w.alloc (.cells #[.int .i64 x,.int .i64 y] 27)) w.heap.size x y:=heap_alloc_new _ _
theorem BoxA.keep {w w1:World}{b:Nat}{x y:Int}(h:BoxA w b x y) (hb:Below w.heap.size w w1):BoxA w1 b x y:=(hb.block b (heap_lt h)).trans h
theorem BoxA.alloc {w:World}{b:Nat}{x y:Int}(h:BoxA w b x y) (o:Obj):BoxA (w.alloc o) b x y:=(Below.heap_alloc _ _ _ (heap_lt h)).trans h
theorem BoxA.c0 {w:World}{b:Nat}{x y:Int}(h:BoxA w b x y):w.cell? ⟨b,0,none⟩=some (.int .i64 x):=cell_of h 0
theorem BoxA.c1 {w:World}{b:Nat}{x y:Int}(h:BoxA w b x y):w.cell? ⟨b,1,none⟩=some (.int .i64 y):=cell_of h 1
theorem BoxA.lt {w:World}{b:Nat}{x y:Int}(h:BoxA w b x y):b<w.heap.size:=heap_lt h
theorem BoxA.chg {w w1:World}{b:Nat}{x y:Int}(h:BoxA w b x y) (hb:Chg No w w1):BoxA w1 b x y:=(hb.block b (heap_lt h) id).trans h
theorem BoxA.ld {w:World}{b:Nat}{x y:Int}(h:BoxA w b x y):(Instr.loadAt 27 (.pointer (some ⟨b,0,none⟩))).run prog w=.ok (.agg #[.int .i64 x,.int .i64 y]) w:=by
 have h0:=h.c0;have h1:=h.c1;go_simp
theorem split_at {x y f c g d:Int}{b:Bool}(h1:metaA (x,y)=(f,c)) (h2:dataA (x,y)=(g,d)) (h3:splitB (x,y)=b) (w:World):Calls prog 29 #[.agg #[.int .i64 x,.int .i64 y]] w fun e w'=>e=.returned (.tuple #[.agg #[.int .i64 f,.int .i64 c],.agg #[.int .i64 g,.int .i64 d],.bool b])∧Below w.heap.size w w':=by
 have h:=split_ok (x,y) w;rw[h1,h2,h3] at h;exact h
theorem inside_at {x y p q f c:Int}{b:Bool}(h1:insideA (x,y) p q=(f,c)) (h2:insideB (x,y) p q=b) (w:World):Calls prog 30 #[.agg #[.int .i64 x,.int .i64 y],.int .i64 p,.int .i64 q] w fun e w'=>e=.returned (.tuple #[.agg #[.int .i64 f,.int .i64 c],.bool b])∧Below w.heap.size w w':=by
 have h:=inside_ok (x,y) p q w;rw[h1,h2] at h;exact h
theorem over_at {x y u v:Int}{b:Bool}(h:0≤x∧x≤1000000000∧y≤1000000000∧0≤u∧u≤1000000000∧v≤1000000000) (h2:overB (x,y) (u,v)=b) (w:World):Calls prog 47 #[.agg #[.int .i64 x,.int .i64 y],.agg #[.int .i64 u,.int .i64 v]] w fun e w'=>e=.returned (.bool b)∧Below w.heap.size w w':=by
 have h:=over_ok (x,y) (u,v) h w;rw[h2] at h;exact h
theorem area_eq (w:World) (x x':Operand) (a b c d:Int) (r:Bool) (h:(decide (a=c) && decide (b=d))=r):((do eqGuard .eql 27 x x' (.agg #[.int .i64 a,.int .i64 b]) (.agg #[.int .i64 c,.int .i64 d]);binOp .eql 27 (.agg #[.int .i64 a,.int .i64 b]) (.agg #[.int .i64 c,.int .i64 d])):Sem Value).run prog w=.ok (.bool r) w:=by
 have hS:prog.underlying 27=some (.struct (prog.fieldsOf 27)):=by kernel_rfl
 have hp:prog.stoodInHeld 27=false:=by kernel_rfl
 have hm:prog.eqGuardType prog.depth 27=false:=by kernel_rfl
 have u3:=underlying3;have a3:=Tryz.isAgg3;have z3:=Tryz.sizeOf3;rw[Sem.run_bind,run_eqGuard_agg _ _ _ _ _ _ _ hm,Result.andThen_ok,run_eql_struct,show (10000:Nat)=9999+1 from rfl,run_equalIn_agg w 9999 27 _ _ hS hp];simp only[Program.fieldsOf,underlying27];go_simp;subst h;by_cases h1:a=c<;>by_cases h2:b=d<;>simp[h1,h2]
end Go.Proofs.YthmcbgidehjlbaaGreat.P
