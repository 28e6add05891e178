/-
  suite.Seal, Open, Derive by what they call; what suite.through and ideal.Key refuse. No condition beyond what each theorem names.
-/
import Derived.Test.YtbgfdbidbjlaaaaGreatSaTakePk
import Derived.Test.YtbgfdbidbjlaaaaGreatSaTagPk
import Derived.Test.YtbgfdbidbjlaaaaGreatSaIdealPk
namespace Go.Proofs.YtbgfdbidbjlaaaaGreat.Fd
open _root_.Go.Proofs.Tryz
open Go Go.RowKit K
set_option maxRecDepth 100000
set_option maxHeartbeats 4000000
def Two (Q:Ending→World→Prop) (e:Ending) (w:World):Prop:=∃ a n c er,e=.returned (.tuple #[.slice a n c,.int .i64 er])∧Q e w
theorem suThroughBad_ok {w:World}(what kv dv fv:Value) (unit:Int) (h:Calls prog 39 #[kv,.int .i64 unit,dv] w fun e w'=>e=.returned (.bool false)∧Below w.heap.size w w'):
  Calls prog 22 #[what,kv,.int .i64 unit,dv,fv] w fun e w'=>e=.returned (.tuple #[.slice none 0 0,.int .i64 1])∧Below w.heap.size w w':=by
 replace h:=LH h;go_enter func22,ntmps22
 go_wp2_with fail
 refine h.out.mono ?_;rintro e w1 ⟨rfl,h1⟩;replace h1:=LH h1;go_wp2;go_ret2;exact⟨rfl,h1.out⟩
theorem seal_ideal {w:World}{s:Nat}{c:Addr}{t:Option Addr}(hs:SuiteAt w s (some c) t) (what kv dv:Value) (unit:Int) (Q:Ending→World→Prop)
  (h:Calls prog 22 #[what,kv,.int .i64 unit,dv,.func (.func 23) #[.pointer (some c)] #[]] w (Two Q)):
  Calls prog 9 #[.pointer (some ⟨s,0,none⟩),what,kv,.int .i64 unit,dv] w Q:=by
 have hi:=LH (isIdeal_ok hs);have h1:w.cell? ⟨s,0,none⟩=some (.pointer (some c)):=cell_of hs 0;replace h:=LH h;clear hs;go_enter func9,ntmps9
 go_wp2_with (first|(go_at_call 15;refine hi.out.mono ?_;rintro e w' ⟨rfl,rfl⟩)|fail)
 refine h.out.mono ?_;rintro e w' ⟨a,n,cp,er,rfl,hQ⟩;replace hQ:=LH hQ;go_wp2;exact hQ.out
theorem seal_real {w:World}{s:Nat}{t:Option Addr}(hs:SuiteAt w s none t) (what kv dv:Value) (unit:Int) (Q:Ending→World→Prop)
  (h:Calls prog 24 #[kv,.int .i64 unit,dv] w (Two Q)):
  Calls prog 9 #[.pointer (some ⟨s,0,none⟩),what,kv,.int .i64 unit,dv] w Q:=by
 have hi:=LH (isIdeal_ok hs);replace h:=LH h;clear hs;go_enter func9,ntmps9
 go_wp2_with (first|(go_at_call 15;refine hi.out.mono ?_;rintro e w' ⟨rfl,rfl⟩)|fail)
 refine h.out.mono ?_;rintro e w' ⟨a,n,cp,er,rfl,hQ⟩;replace hQ:=LH hQ;go_wp2;exact hQ.out
theorem open_ideal {w:World}{s:Nat}{c:Addr}{t:Option Addr}(hs:SuiteAt w s (some c) t) (what kv dv:Value) (unit:Int) (Q:Ending→World→Prop)
  (h:Calls prog 22 #[what,kv,.int .i64 unit,dv,.func (.func 28) #[.pointer (some c)] #[]] w (Two Q)):
  Calls prog 11 #[.pointer (some ⟨s,0,none⟩),what,kv,.int .i64 unit,dv] w Q:=by
 have hi:=LH (isIdeal_ok hs);have h1:w.cell? ⟨s,0,none⟩=some (.pointer (some c)):=cell_of hs 0;replace h:=LH h;clear hs;go_enter func11,ntmps11
 go_wp2_with (first|(go_at_call 15;refine hi.out.mono ?_;rintro e w' ⟨rfl,rfl⟩)|fail)
 refine h.out.mono ?_;rintro e w' ⟨a,n,cp,er,rfl,hQ⟩;replace hQ:=LH hQ;go_wp2;exact hQ.out
theorem open_real {w:World}{s:Nat}{t:Option Addr}(hs:SuiteAt w s none t) (what kv dv:Value) (unit:Int) (Q:Ending→World→Prop)
  (h:Calls prog 29 #[kv,.int .i64 unit,dv] w (Two Q)):
  Calls prog 11 #[.pointer (some ⟨s,0,none⟩),what,kv,.int .i64 unit,dv] w Q:=by
 have hi:=LH (isIdeal_ok hs);replace h:=LH h;clear hs;go_enter func11,ntmps11
 go_wp2_with (first|(go_at_call 15;refine hi.out.mono ?_;rintro e w' ⟨rfl,rfl⟩)|fail)
 refine h.out.mono ?_;rintro e w' ⟨a,n,cp,er,rfl,hQ⟩;replace hQ:=LH hQ;go_wp2;exact hQ.out
theorem derive_ideal {w:World}{s:Nat}{c:Addr}{t:Option Addr}(hs:SuiteAt w s (some c) t) (what:ByteArray) (hw:what.size≤1000) (pv sv:Value) (r n:Int) (Q:Ending→World→Prop)
  (h:Calls prog 30 #[.pointer (some c),.string (what++⟨#[32,107,101,121]⟩),pv,sv,.int .i64 r,.int .i64 n] w (Two Q)):
  Calls prog 12 #[.pointer (some ⟨s,0,none⟩),.string what,pv,sv,.int .i64 r,.int .i64 n] w Q:=by
 have hi:=LH (isIdeal_ok hs);have h1:w.cell? ⟨s,0,none⟩=some (.pointer (some c)):=cell_of hs 0;replace h:=LH h;clear hs;go_enter func12,ntmps12
 go_wp2_with (first|(go_at_call 15;refine hi.out.mono ?_;rintro e w' ⟨rfl,rfl⟩)|fail)
 refine h.out.mono ?_;rintro e w' ⟨a,n,cp,er,rfl,hQ⟩;replace hQ:=LH hQ;go_wp2;exact hQ.out
theorem derive_real {w:World}{s:Nat}{t:Option Addr}(hs:SuiteAt w s none t) (what pv sv:Value) (r n:Int) (Q:Ending→World→Prop)
  (h:Calls prog 31 #[pv,sv,.int .i64 r,.int .i64 n] w (Two Q)):
  Calls prog 12 #[.pointer (some ⟨s,0,none⟩),what,pv,sv,.int .i64 r,.int .i64 n] w Q:=by
 have hi:=LH (isIdeal_ok hs);replace h:=LH h;clear hs;go_enter func12,ntmps12
 go_wp2_with (first|(go_at_call 15;refine hi.out.mono ?_;rintro e w' ⟨rfl,rfl⟩)|fail)
 refine h.out.mono ?_;rintro e w' ⟨a,n,cp,er,rfl,hQ⟩;replace hQ:=LH hQ;go_wp2;exact hQ.out
theorem idKey_bad (c what:Value) (pv sv:Value) (r n:Int) (w:World)
  (h:Calls prog 31 #[pv,sv,.int .i64 (min r 1),.int .i64 0] w fun e w'=>e=.returned (.tuple #[.slice none 0 0,.int .i64 1])∧w=w'):
  Calls prog 30 #[c,what,pv,sv,.int .i64 r,.int .i64 n] w fun e w'=>e=.returned (.tuple #[.slice none 0 0,.int .i64 1])∧w=w':=by
 replace h:=LH h;obtain⟨m,hm⟩:∃ m,m=min r 1:=⟨_,rfl⟩;rw[← hm] at h;have hmn:(if (1:Int)<r then 1 else r)=m:=by rw[hm];split<;>omega
 clear hm;go_enter func30,ntmps30
 go_wp2_with fail
 refine h.out.mono ?_;rintro e w' ⟨rfl,rfl⟩;go_wp2;go_ret2;exact⟨rfl,rfl⟩
end Go.Proofs.YtbgfdbidbjlaaaaGreat.Fd
