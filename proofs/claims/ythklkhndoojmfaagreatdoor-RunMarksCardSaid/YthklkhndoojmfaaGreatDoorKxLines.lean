/-
  A part of the proof.
-/
import Derived.Test.YthklkhndoojmfaaGreatDoorKxLay2
import Derived.Test.YthklkhndoojmfaaGreatDoorEwM9
import Derived.Shelf.Strconv.Atoi
import Derived.Shelf.Strconv.AtoiErr
import Derived.Shelf.Strconv.Itoa3
import Derived.Lib.AppendIntMem
import Derived.Lib.SmallJoins
import Derived.BigGuardPart
import Derived.Test.YthklkhndoojmfaaGreatDoorProg
import Derived.Shelf.Lays
import Derived.Shelf.LaysM
import Derived.Shelf.LaysC
import Derived.KernelRfl
import Derived.Shelf.Strings.BuilderF
import Derived.Shelf.Strings.Builder1
import Derived.Shelf.Strings.BuilderK
import Derived.Laws.BitsAllLaws
import Derived.Laws.IdiomStrings
import Derived.Conc.SmallLaws
import Derived.Conc.EventLaws
import Derived.WalkKit
import Derived.WalkMore
import Derived.Scope
set_option linter.unusedVariables false
set_option linter.unusedSimpArgs false
noncomputable section
namespace Go.Kx
open Go Go.Conc Go.Proofs Go.RowKit Go.Kn
theorem atoi_ok (s:ByteArray) (n:Int) (hl:s.size≤18) (h:Lib.atoi s.data.toList=some n) (V:World):Calls Tryz.prog 48 #[.string s] V λe w'=>e=.returned (.tuple #[.int .i64 n,.nilIface])∧Below V.heap.size V w':=
 (Any.strconv_Atoi {lays172 with} s n hl h V).mono λe w' h=>⟨h.1,h.2.elim λt h=>h▸Go.Joins.below_bytesWorld _ V 5 t (Nat.le_refl _)⟩
theorem atoi_no (s:ByteArray) (hl:s.size≤18) (h:Lib.atoi s.data.toList=none) (ev:Value) (V:World) (hv:V.cell? ⟨1,0,none⟩=some ev) (hev:ev=.nilIface∨∃te pe,ev=.iface te pe):Calls Tryz.prog 48 #[.string s] V λe w'=>∃t v,e=.returned (.tuple #[.int .i64 0,.iface t v])∧Below V.heap.size V w':=
 (Any.strconv_Atoi_err lays172 s hl h ev V hv hev).mono λe w' ⟨N,h1,_,_,h2⟩=>⟨_,_,h1,h2⟩
theorem itoa_ok (n:Int) (h0: -9223372036854775808≤n) (h1:n≤9223372036854775807) (V:World) (ht:Lib.TabIs Tryz.prog V "internal/strconv.uint64pow10" .u64 Lib.pow10Tab):Calls Tryz.prog 43 #[.int .i64 n] V fun e w'=>e=.returned (.string ⟨(Lib.itoa n).toArray⟩)∧Below V.heap.size V w':=
 (Any.strconv_Itoa lays171 n h0 h1 V ht).mono λe w' ⟨h1,k,os,h2⟩=>⟨h1,h2▸Lib.below_grow _ V (Nat.le_refl _) k os⟩
theorem fits_ok (x:Int) (h1: -9007199254740992≤x) (h2:x≤9007199254740992) (w:World):Calls Tryz.prog 22 #[.int .i64 x] w λe w'=>e=.returned (.bool true)∧w'=w:=by
 go_enter Tryz.func22,Tryz.ntmps22
 go_wp2
 go_ret
 exact⟨rfl,rfl⟩
set_option maxHeartbeats 1000000 in
set_option maxRecDepth 100000 in
theorem number_no (s:ByteArray) (hl:s.size≤18) (h:Lib.atoi s.data.toList=none) (ev:Value) (w:World) (hv:w.cell? ⟨1,0,none⟩=some ev) (hev:ev=.nilIface∨∃te pe,ev=.iface te pe):
 Calls Tryz.prog 20 #[.string s] w λe w'=>e=.returned (.tuple #[.int .i64 0,.bool false])∧Below w.heap.size w w':=by
 have ha:=atoi_no s hl h ev w hv hev
 go_enter Tryz.func20,Tryz.ntmps20
 go_wp2_with (go_at_call 48;refine ha.mono ?_;rintro e W2 ⟨t,v,rfl,hb⟩;clear ha)
 go_ret2
 exact⟨rfl,hb⟩
set_option maxHeartbeats 1000000 in
set_option maxRecDepth 100000 in
theorem number_ok (s:ByteArray) (x:Int) (hl:s.size≤18) (h:s.data.toList=Lib.itoa x) (h1: -9007199254740992≤x) (h2:x≤9007199254740992) (w:World) (ht:∀W,Below w.heap.size w W→Lib.TabIs Tryz.prog W "internal/strconv.uint64pow10" .u64 Lib.pow10Tab):
 Calls Tryz.prog 20 #[.string s] w λe w'=>e=.returned (.tuple #[.int .i64 x,.bool true])∧Below w.heap.size w w':=by
 have ha:=atoi_ok s x hl (by rw[h];exact Ev.atoi_itoa x) w
 have hs:(⟨(Lib.itoa x).toArray⟩:ByteArray)=s:=by rw[←h]
 have hi:=λW (hW:Below w.heap.size w W)=>itoa_ok x (by omega) (by omega) W (ht W hW)
 rw[hs]at hi
 clear hs
 go_enter Tryz.func20,Tryz.ntmps20
 go_wp2_with (first|(go_at_call 48;refine ha.mono ?_;rintro e W2 ⟨rfl,hb⟩;clear ha)|(go_at_call 43;refine(hi W2 hb).mono ?_;rintro e W3 ⟨rfl,hb3⟩)|(go_at_call 22;refine(fits_ok x h1 h2 _).mono ?_;rintro e W4 ⟨rfl,hW4⟩;have h9:=hW4.symm;clear hW4;subst h9))
 go_ret2
 exact⟨rfl,hb.trans (hb3.mono hb.size)⟩
end Go.Kx
set_option linter.unusedVariables false
set_option linter.unusedSimpArgs false
noncomputable section
set_option maxRecDepth 1000000
namespace Go.Kx
open Go Go.Proofs
def lays145_ren:Go.Shelf.Ren:=⟨fun|145=>19|217=>156|219=>94|220=>47|224=>158|225=>157|266=>230|267=>159|314=>231|n=>n,fun|0=>0|1=>1|2=>2|3=>3|4=>4|5=>5|6=>6|7=>7|8=>8|9=>9|10=>10|11=>11|12=>12|13=>13|14=>14|15=>15|16=>16|17=>17|18=>18|19=>19|20=>20|21=>21|22=>78|24=>63|27=>119|28=>22|29=>207|30=>223|31=>41|32=>458|33=>456|34=>361|35=>289|37=>37|43=>195|45=>30|46=>24|47=>348|51=>241|52=>387|53=>36|54=>296|55=>170|59=>69|60=>70|61=>109|69=>116|70=>60|71=>61|72=>62|73=>95|74=>64|75=>65|76=>66|77=>67|78=>171|80=>68|81=>79|83=>25|84=>232|85=>235|86=>236|103=>306|104=>189|105=>307|106=>308|108=>305|109=>172|110=>173|111=>75|112=>80|113=>168|114=>233|119=>388|127=>108|128=>167|131=>71|134=>347|137=>389|138=>390|139=>391|143=>354|144=>355|145=>356|146=>242|147=>243|148=>244|149=>245|150=>240|151=>300|164=>165|165=>166|167=>234|168=>237|169=>238|170=>239|171=>295|172=>297|173=>298|174=>299|175=>301|176=>302|181=>380|182=>381|183=>382|184=>383|185=>384|186=>385|187=>386|209=>303|210=>304|211=>350|212=>351|213=>352|214=>353|218=>409|219=>410|220=>411|221=>412|222=>186|223=>413|228=>431|229=>110|230=>432|232=>414|233=>415|238=>459|239=>460|240=>461|241=>462|242=>463|243=>464|244=>465|245=>466|246=>467|247=>468|248=>469|249=>470|n=>n,fun|1=>0|n=>n⟩
theorem lays145:Go.Proofs.Lays.n145 Tryz.prog lays145_ren where
 mixed:=by kernel_rfl
 f145:=by kernel_rfl
 f217:=by kernel_rfl
 f219:=by kernel_rfl
 f220:=by kernel_rfl
 f224:=by kernel_rfl
 f225:=by kernel_rfl
 f266:=by kernel_rfl
 f267:=by kernel_rfl
 f314:=by kernel_rfl
 t3:=by kernel_rfl
 a3:=λw=>by kernel_rfl
 z3:=λw=>by kernel_rfl
 v3:=λw=>by kernel_rfl
 t4:=by kernel_rfl
 a4:=λw=>by kernel_rfl
 z4:=λw=>by kernel_rfl
 v4:=λw=>by kernel_rfl
 t5:=by kernel_rfl
 a5:=λw=>by kernel_rfl
 z5:=λw=>by kernel_rfl
 v5:=λw=>by kernel_rfl
 t9:=by kernel_rfl
 a9:=λw=>by kernel_rfl
 z9:=λw=>by kernel_rfl
 v9:=λw=>by kernel_rfl
 t46:=by kernel_rfl
 a46:=λw=>by kernel_rfl
 z46:=λw=>by kernel_rfl
 v46:=λw=>by kernel_rfl
 t51:=by kernel_rfl
 a51:=λw=>by kernel_rfl
 z51:=λw=>by kernel_rfl
 v51:=λw=>by kernel_rfl
 t59:=by kernel_rfl
 a59:=λw=>by kernel_rfl
 z59:=λw=>by kernel_rfl
 v59:=λw=>by kernel_rfl
 t146:=by kernel_rfl
 a146:=λw=>by kernel_rfl
 z146:=λw=>by kernel_rfl
 v146:=λw=>by kernel_rfl
 g1:=by kernel_rfl
def lays146_ren:Go.Shelf.Ren:=⟨fun|138=>166|143=>55|146=>49|195=>235|197=>236|217=>156|218=>237|219=>94|221=>97|224=>158|225=>157|260=>291|266=>230|267=>159|268=>165|314=>231|n=>n,fun|0=>0|1=>1|2=>2|3=>3|4=>4|5=>5|6=>6|7=>7|8=>8|9=>9|10=>10|11=>11|12=>12|13=>13|14=>14|15=>15|16=>16|17=>17|18=>18|19=>19|20=>20|21=>21|22=>78|24=>63|27=>119|28=>22|29=>207|30=>223|31=>41|32=>458|33=>456|34=>361|35=>289|37=>37|43=>195|45=>30|46=>24|47=>348|51=>241|52=>387|53=>36|54=>296|55=>170|59=>69|60=>70|61=>109|69=>116|70=>60|71=>61|72=>62|73=>95|74=>64|75=>65|76=>66|77=>67|78=>171|80=>68|81=>79|83=>25|84=>232|85=>235|86=>236|103=>306|104=>189|105=>307|106=>308|108=>305|109=>172|110=>173|111=>75|112=>80|113=>168|114=>233|119=>388|127=>108|128=>167|131=>71|134=>347|137=>389|138=>390|139=>391|143=>354|144=>355|145=>356|146=>242|147=>243|148=>244|149=>245|150=>240|151=>300|164=>165|165=>166|167=>234|168=>237|169=>238|170=>239|171=>295|172=>297|173=>298|174=>299|175=>301|176=>302|181=>380|182=>381|183=>382|184=>383|185=>384|186=>385|187=>386|209=>303|210=>304|211=>350|212=>351|213=>352|214=>353|218=>409|219=>410|220=>411|221=>412|222=>186|223=>413|228=>431|229=>110|230=>432|232=>414|233=>415|238=>459|239=>460|240=>461|241=>462|242=>463|243=>464|244=>465|245=>466|246=>467|247=>468|248=>469|249=>470|n=>n,fun|1=>0|3=>4|4=>5|n=>n⟩
theorem lays146:Go.Proofs.Lays.n146 Tryz.prog lays146_ren where
 mixed:=by kernel_rfl
 f138:=by kernel_rfl
 f143:=by kernel_rfl
 f146:=by kernel_rfl
 f195:=by kernel_rfl
 f197:=by kernel_rfl
 f217:=by kernel_rfl
 f218:=by kernel_rfl
 f219:=by kernel_rfl
 f221:=by kernel_rfl
 f224:=by kernel_rfl
 f225:=by kernel_rfl
 f260:=by kernel_rfl
 f266:=by kernel_rfl
 f267:=by kernel_rfl
 f268:=by kernel_rfl
 f314:=by kernel_rfl
 t0:=by kernel_rfl
 a0:=λw=>by kernel_rfl
 z0:=λw=>by kernel_rfl
 v0:=λw=>by kernel_rfl
 t3:=by kernel_rfl
 a3:=λw=>by kernel_rfl
 z3:=λw=>by kernel_rfl
 v3:=λw=>by kernel_rfl
 t4:=by kernel_rfl
 a4:=λw=>by kernel_rfl
 z4:=λw=>by kernel_rfl
 v4:=λw=>by kernel_rfl
 t5:=by kernel_rfl
 a5:=λw=>by kernel_rfl
 z5:=λw=>by kernel_rfl
 v5:=λw=>by kernel_rfl
 t9:=by kernel_rfl
 a9:=λw=>by kernel_rfl
 z9:=λw=>by kernel_rfl
 v9:=λw=>by kernel_rfl
 t21:=by kernel_rfl
 a21:=λw=>by kernel_rfl
 z21:=λw=>by kernel_rfl
 v21:=λw=>by kernel_rfl
 t31:=by kernel_rfl
 a31:=λw=>by kernel_rfl
 z31:=λw=>by kernel_rfl
 v31:=λw=>by kernel_rfl
 t46:=by kernel_rfl
 a46:=λw=>by kernel_rfl
 z46:=λw=>by kernel_rfl
 v46:=λw=>by kernel_rfl
 t51:=by kernel_rfl
 a51:=λw=>by kernel_rfl
 z51:=λw=>by kernel_rfl
 v51:=λw=>by kernel_rfl
 t105:=by kernel_rfl
 a105:=λw=>by kernel_rfl
 z105:=λw=>by kernel_rfl
 v105:=λw=>by kernel_rfl
 t119:=by kernel_rfl
 a119:=λw=>by kernel_rfl
 z119:=λw=>by kernel_rfl
 t138:=by kernel_rfl
 a138:=λw=>by kernel_rfl
 z138:=λw=>by kernel_rfl
 v138:=λw=>by kernel_rfl
 t139:=by kernel_rfl
 a139:=λw=>by kernel_rfl
 z139:=λw=>by kernel_rfl
 v139:=λw=>by kernel_rfl
 t146:=by kernel_rfl
 a146:=λw=>by kernel_rfl
 z146:=λw=>by kernel_rfl
 v146:=λw=>by kernel_rfl
 g1:=by kernel_rfl
 g3:=by kernel_rfl
 g4:=by kernel_rfl
def lays144_ren:Go.Shelf.Ren:=⟨fun|143=>55|144=>25|217=>156|219=>94|224=>158|225=>157|266=>230|267=>159|314=>231|n=>n,fun|0=>0|1=>1|2=>2|3=>3|4=>4|5=>5|6=>6|7=>7|8=>8|9=>9|10=>10|11=>11|12=>12|13=>13|14=>14|15=>15|16=>16|17=>17|18=>18|19=>19|20=>20|21=>21|22=>78|24=>63|27=>119|28=>22|29=>207|30=>223|31=>41|32=>458|33=>456|34=>361|35=>289|37=>37|43=>195|45=>30|46=>24|47=>348|51=>241|52=>387|53=>36|54=>296|55=>170|59=>69|60=>70|61=>109|69=>116|70=>60|71=>61|72=>62|73=>95|74=>64|75=>65|76=>66|77=>67|78=>171|80=>68|81=>79|83=>25|84=>232|85=>235|86=>236|103=>306|104=>189|105=>307|106=>308|108=>305|109=>172|110=>173|111=>75|112=>80|113=>168|114=>233|119=>388|127=>108|128=>167|131=>71|134=>347|137=>389|138=>390|139=>391|143=>354|144=>355|145=>356|146=>242|147=>243|148=>244|149=>245|150=>240|151=>300|164=>165|165=>166|167=>234|168=>237|169=>238|170=>239|171=>295|172=>297|173=>298|174=>299|175=>301|176=>302|181=>380|182=>381|183=>382|184=>383|185=>384|186=>385|187=>386|209=>303|210=>304|211=>350|212=>351|213=>352|214=>353|218=>409|219=>410|220=>411|221=>412|222=>186|223=>413|228=>431|229=>110|230=>432|232=>414|233=>415|238=>459|239=>460|240=>461|241=>462|242=>463|243=>464|244=>465|245=>466|246=>467|247=>468|248=>469|249=>470|n=>n,fun|1=>0|n=>n⟩
theorem lays144:Go.Proofs.Lays.n144 Tryz.prog lays144_ren where
 mixed:=by kernel_rfl
 f143:=by kernel_rfl
 f144:=by kernel_rfl
 f217:=by kernel_rfl
 f219:=by kernel_rfl
 f224:=by kernel_rfl
 f225:=by kernel_rfl
 f266:=by kernel_rfl
 f267:=by kernel_rfl
 f314:=by kernel_rfl
 t3:=by kernel_rfl
 a3:=λw=>by kernel_rfl
 z3:=λw=>by kernel_rfl
 v3:=λw=>by kernel_rfl
 t4:=by kernel_rfl
 a4:=λw=>by kernel_rfl
 z4:=λw=>by kernel_rfl
 v4:=λw=>by kernel_rfl
 t5:=by kernel_rfl
 a5:=λw=>by kernel_rfl
 z5:=λw=>by kernel_rfl
 v5:=λw=>by kernel_rfl
 t9:=by kernel_rfl
 a9:=λw=>by kernel_rfl
 z9:=λw=>by kernel_rfl
 v9:=λw=>by kernel_rfl
 t46:=by kernel_rfl
 a46:=λw=>by kernel_rfl
 z46:=λw=>by kernel_rfl
 v46:=λw=>by kernel_rfl
 t51:=by kernel_rfl
 a51:=λw=>by kernel_rfl
 z51:=λw=>by kernel_rfl
 v51:=λw=>by kernel_rfl
 t146:=by kernel_rfl
 a146:=λw=>by kernel_rfl
 z146:=λw=>by kernel_rfl
 v146:=λw=>by kernel_rfl
 g1:=by kernel_rfl
def lays137_ren:Go.Shelf.Ren:=⟨fun|137=>98|217=>156|266=>230|n=>n,fun|0=>0|1=>1|2=>2|3=>3|4=>4|5=>5|6=>6|7=>7|8=>8|9=>9|10=>10|11=>11|12=>12|13=>13|14=>14|15=>15|16=>16|17=>17|18=>18|19=>19|20=>20|21=>21|22=>78|24=>63|27=>119|28=>22|29=>207|30=>223|31=>41|32=>458|33=>456|34=>361|35=>289|37=>37|43=>195|45=>30|46=>24|47=>348|51=>241|52=>387|53=>36|54=>296|55=>170|59=>69|60=>70|61=>109|69=>116|70=>60|71=>61|72=>62|73=>95|74=>64|75=>65|76=>66|77=>67|78=>171|80=>68|81=>79|83=>25|84=>232|85=>235|86=>236|103=>306|104=>189|105=>307|106=>308|108=>305|109=>172|110=>173|111=>75|112=>80|113=>168|114=>233|119=>388|127=>108|128=>167|131=>71|134=>347|137=>389|138=>390|139=>391|143=>354|144=>355|145=>356|146=>242|147=>243|148=>244|149=>245|150=>240|151=>300|164=>165|165=>166|167=>234|168=>237|169=>238|170=>239|171=>295|172=>297|173=>298|174=>299|175=>301|176=>302|181=>380|182=>381|183=>382|184=>383|185=>384|186=>385|187=>386|209=>303|210=>304|211=>350|212=>351|213=>352|214=>353|218=>409|219=>410|220=>411|221=>412|222=>186|223=>413|228=>431|229=>110|230=>432|232=>414|233=>415|238=>459|239=>460|240=>461|241=>462|242=>463|243=>464|244=>465|245=>466|246=>467|247=>468|248=>469|249=>470|n=>n,fun|n=>n⟩
theorem lays137:Go.Proofs.Lays.n137 Tryz.prog lays137_ren where
 mixed:=by kernel_rfl
 f137:=by kernel_rfl
 f217:=by kernel_rfl
 f266:=by kernel_rfl
 t3:=by kernel_rfl
 a3:=λw=>by kernel_rfl
 z3:=λw=>by kernel_rfl
 v3:=λw=>by kernel_rfl
 t5:=by kernel_rfl
 a5:=λw=>by kernel_rfl
 z5:=λw=>by kernel_rfl
 v5:=λw=>by kernel_rfl
 t9:=by kernel_rfl
 a9:=λw=>by kernel_rfl
 z9:=λw=>by kernel_rfl
 v9:=λw=>by kernel_rfl
def lays167_ren:Go.Shelf.Ren:=⟨fun|167=>99|240=>46|276=>93|n=>n,fun|0=>0|1=>1|2=>2|3=>3|4=>4|5=>5|6=>6|7=>7|8=>8|9=>9|10=>10|11=>11|12=>12|13=>13|14=>14|15=>15|16=>16|17=>17|18=>18|19=>19|20=>20|21=>21|22=>78|24=>63|27=>119|28=>22|29=>207|30=>223|31=>41|32=>458|33=>456|34=>361|35=>289|37=>37|43=>195|45=>30|46=>24|47=>348|51=>241|52=>387|53=>36|54=>296|55=>170|59=>69|60=>70|61=>109|69=>116|70=>60|71=>61|72=>62|73=>95|74=>64|75=>65|76=>66|77=>67|78=>171|80=>68|81=>79|83=>25|84=>232|85=>235|86=>236|103=>306|104=>189|105=>307|106=>308|108=>305|109=>172|110=>173|111=>75|112=>80|113=>168|114=>233|119=>388|127=>108|128=>167|131=>71|134=>347|137=>389|138=>390|139=>391|143=>354|144=>355|145=>356|146=>242|147=>243|148=>244|149=>245|150=>240|151=>300|164=>165|165=>166|167=>234|168=>237|169=>238|170=>239|171=>295|172=>297|173=>298|174=>299|175=>301|176=>302|181=>380|182=>381|183=>382|184=>383|185=>384|186=>385|187=>386|209=>303|210=>304|211=>350|212=>351|213=>352|214=>353|218=>409|219=>410|220=>411|221=>412|222=>186|223=>413|228=>431|229=>110|230=>432|232=>414|233=>415|238=>459|239=>460|240=>461|241=>462|242=>463|243=>464|244=>465|245=>466|246=>467|247=>468|248=>469|249=>470|n=>n,fun|n=>n⟩
theorem lays167:Go.Proofs.Lays.n167 Tryz.prog lays167_ren where
 mixed:=by kernel_rfl
 f167:=by kernel_rfl
 f240:=by kernel_rfl
 f276:=by kernel_rfl
 t0:=by kernel_rfl
 a0:=λw=>by kernel_rfl
 z0:=λw=>by kernel_rfl
 v0:=λw=>by kernel_rfl
 t4:=by kernel_rfl
 a4:=λw=>by kernel_rfl
 z4:=λw=>by kernel_rfl
 v4:=λw=>by kernel_rfl
 t5:=by kernel_rfl
 a5:=λw=>by kernel_rfl
 z5:=λw=>by kernel_rfl
 v5:=λw=>by kernel_rfl
 t9:=by kernel_rfl
 a9:=λw=>by kernel_rfl
 z9:=λw=>by kernel_rfl
 v9:=λw=>by kernel_rfl
 t20:=by kernel_rfl
 a20:=λw=>by kernel_rfl
 z20:=λw=>by kernel_rfl
 v20:=λw=>by kernel_rfl
 t37:=by kernel_rfl
 a37:=λw=>by kernel_rfl
 z37:=λw=>by kernel_rfl
 v37:=λw=>by kernel_rfl
 t70:=by kernel_rfl
 a70:=λw=>by kernel_rfl
 z70:=λw=>by kernel_rfl
 v70:=λw=>by kernel_rfl
 t72:=by kernel_rfl
 a72:=λw=>by kernel_rfl
 z72:=λw=>by kernel_rfl
 v72:=λw=>by kernel_rfl
 t75:=by kernel_rfl
 a75:=λw=>by kernel_rfl
 z75:=λw=>by kernel_rfl
 v75:=λw=>by kernel_rfl
 t164:=by kernel_rfl
 a164:=λw=>by kernel_rfl
 z164:=λw=>by kernel_rfl
 v164:=λw=>by kernel_rfl
def lays169_ren:Go.Shelf.Ren:=⟨fun|169=>18|n=>n,fun|0=>0|1=>1|2=>2|3=>3|4=>4|5=>5|6=>6|7=>7|8=>8|9=>9|10=>10|11=>11|12=>12|13=>13|14=>14|15=>15|16=>16|17=>17|18=>18|19=>19|20=>20|21=>21|22=>78|24=>63|27=>119|28=>22|29=>207|30=>223|31=>41|32=>458|33=>456|34=>361|35=>289|37=>37|43=>195|45=>30|46=>24|47=>348|51=>241|52=>387|53=>36|54=>296|55=>170|59=>69|60=>70|61=>109|69=>116|70=>60|71=>61|72=>62|73=>95|74=>64|75=>65|76=>66|77=>67|78=>171|80=>68|81=>79|83=>25|84=>232|85=>235|86=>236|103=>306|104=>189|105=>307|106=>308|108=>305|109=>172|110=>173|111=>75|112=>80|113=>168|114=>233|119=>388|127=>108|128=>167|131=>71|134=>347|137=>389|138=>390|139=>391|143=>354|144=>355|145=>356|146=>242|147=>243|148=>244|149=>245|150=>240|151=>300|164=>165|165=>166|167=>234|168=>237|169=>238|170=>239|171=>295|172=>297|173=>298|174=>299|175=>301|176=>302|181=>380|182=>381|183=>382|184=>383|185=>384|186=>385|187=>386|209=>303|210=>304|211=>350|212=>351|213=>352|214=>353|218=>409|219=>410|220=>411|221=>412|222=>186|223=>413|228=>431|229=>110|230=>432|232=>414|233=>415|238=>459|239=>460|240=>461|241=>462|242=>463|243=>464|244=>465|245=>466|246=>467|247=>468|248=>469|249=>470|n=>n,fun|n=>n⟩
theorem lays169:Go.Proofs.Lays.n169 Tryz.prog lays169_ren where
 mixed:=by kernel_rfl
 f169:=by kernel_rfl
 t0:=by kernel_rfl
 a0:=λw=>by kernel_rfl
 z0:=λw=>by kernel_rfl
 v0:=λw=>by kernel_rfl
 t3:=by kernel_rfl
 a3:=λw=>by kernel_rfl
 z3:=λw=>by kernel_rfl
 v3:=λw=>by kernel_rfl
 t9:=by kernel_rfl
 a9:=λw=>by kernel_rfl
 z9:=λw=>by kernel_rfl
 v9:=λw=>by kernel_rfl
 t37:=by kernel_rfl
 a37:=λw=>by kernel_rfl
 z37:=λw=>by kernel_rfl
 v37:=λw=>by kernel_rfl
 t70:=by kernel_rfl
 a70:=λw=>by kernel_rfl
 z70:=λw=>by kernel_rfl
 v70:=λw=>by kernel_rfl
 t72:=by kernel_rfl
 a72:=λw=>by kernel_rfl
 z72:=λw=>by kernel_rfl
 v72:=λw=>by kernel_rfl
 t127:=by kernel_rfl
 a127:=λw=>by kernel_rfl
 z127:=λw=>by kernel_rfl
 v127:=λw=>by kernel_rfl
def lays166_ren:Go.Shelf.Ren:=⟨fun|166=>17|240=>46|276=>93|n=>n,fun|0=>0|1=>1|2=>2|3=>3|4=>4|5=>5|6=>6|7=>7|8=>8|9=>9|10=>10|11=>11|12=>12|13=>13|14=>14|15=>15|16=>16|17=>17|18=>18|19=>19|20=>20|21=>21|22=>78|24=>63|27=>119|28=>22|29=>207|30=>223|31=>41|32=>458|33=>456|34=>361|35=>289|37=>37|43=>195|45=>30|46=>24|47=>348|51=>241|52=>387|53=>36|54=>296|55=>170|59=>69|60=>70|61=>109|69=>116|70=>60|71=>61|72=>62|73=>95|74=>64|75=>65|76=>66|77=>67|78=>171|80=>68|81=>79|83=>25|84=>232|85=>235|86=>236|103=>306|104=>189|105=>307|106=>308|108=>305|109=>172|110=>173|111=>75|112=>80|113=>168|114=>233|119=>388|127=>108|128=>167|131=>71|134=>347|137=>389|138=>390|139=>391|143=>354|144=>355|145=>356|146=>242|147=>243|148=>244|149=>245|150=>240|151=>300|164=>165|165=>166|167=>234|168=>237|169=>238|170=>239|171=>295|172=>297|173=>298|174=>299|175=>301|176=>302|181=>380|182=>381|183=>382|184=>383|185=>384|186=>385|187=>386|209=>303|210=>304|211=>350|212=>351|213=>352|214=>353|218=>409|219=>410|220=>411|221=>412|222=>186|223=>413|228=>431|229=>110|230=>432|232=>414|233=>415|238=>459|239=>460|240=>461|241=>462|242=>463|243=>464|244=>465|245=>466|246=>467|247=>468|248=>469|249=>470|n=>n,fun|n=>n⟩
theorem lays166:Go.Proofs.Lays.n166 Tryz.prog lays166_ren where
 mixed:=by kernel_rfl
 f166:=by kernel_rfl
 f240:=by kernel_rfl
 f276:=by kernel_rfl
 t0:=by kernel_rfl
 a0:=λw=>by kernel_rfl
 z0:=λw=>by kernel_rfl
 v0:=λw=>by kernel_rfl
 t3:=by kernel_rfl
 a3:=λw=>by kernel_rfl
 z3:=λw=>by kernel_rfl
 v3:=λw=>by kernel_rfl
 t4:=by kernel_rfl
 a4:=λw=>by kernel_rfl
 z4:=λw=>by kernel_rfl
 v4:=λw=>by kernel_rfl
 t9:=by kernel_rfl
 a9:=λw=>by kernel_rfl
 z9:=λw=>by kernel_rfl
 v9:=λw=>by kernel_rfl
 t20:=by kernel_rfl
 a20:=λw=>by kernel_rfl
 z20:=λw=>by kernel_rfl
 v20:=λw=>by kernel_rfl
 t37:=by kernel_rfl
 a37:=λw=>by kernel_rfl
 z37:=λw=>by kernel_rfl
 v37:=λw=>by kernel_rfl
 t70:=by kernel_rfl
 a70:=λw=>by kernel_rfl
 z70:=λw=>by kernel_rfl
 v70:=λw=>by kernel_rfl
 t72:=by kernel_rfl
 a72:=λw=>by kernel_rfl
 z72:=λw=>by kernel_rfl
 v72:=λw=>by kernel_rfl
 t75:=by kernel_rfl
 a75:=λw=>by kernel_rfl
 z75:=λw=>by kernel_rfl
 v75:=λw=>by kernel_rfl
 t164:=by kernel_rfl
 a164:=λw=>by kernel_rfl
 z164:=λw=>by kernel_rfl
 v164:=λw=>by kernel_rfl
end Go.Kx
set_option linter.unusedVariables false
set_option linter.unusedSimpArgs false
noncomputable section
namespace Go.Kx
open Go Go.Conc Go.Proofs Go.RowKit Go.Kn Go.Shelf
def jt (os:List ByteArray):List UInt8:=os.flatMap λo=>o.data.toList++[10]
theorem isBuilder_setChan {T e:TypeId} {B b:Nat} {bs:List Value} {w:World} (h:Lib.IsBuilder T e B b bs w) {c:Nat} (hc:c<B) (cap:Nat) (buf:Array Value) (cl:Bool) (s r:Nat) (tm:Bool):Lib.IsBuilder T e B b bs (w.setChan c cap buf cl s r tm):=by
 have key:∀p,Lib.BuilderAt T e B b p bs w→Lib.BuilderAt T e B b p bs (w.setChan c cap buf cl s r tm):=by
  rintro p ⟨hB,v,hb,hown,hne⟩
  refine⟨hB,v,?_,?_,hne⟩
  ·simp only[World.setChan]
   rw[Array.getElem?_setIfInBounds_ne (by omega)];exact hb
  ·refine hown.kept (row:=some c) ⟨rfl,rfl,rfl,by simp[World.setChan],λk _ hk=>?_⟩ ?_
   ·simp only[World.setChan]
    rw[Array.getElem?_setIfInBounds_ne (λe=>hk (by rw[e]))]
   ·refine .inr λe=>?_
    have:=(hown.lt c e).1
    omega
 exact h.imp (key _) (key _)
theorem extra166:Builder.Extra Tryz.prog lays166_ren where
 sizeBuilder:=by kernel_rfl
 liesBuilder:=by kernel_rfl
 t5:=by kernel_rfl
 a5:=λw=>by kernel_rfl
 z5:=λw=>by kernel_rfl
 v5:=λw=>by kernel_rfl
 infoByte:=by kernel_rfl
 cellsByte:=by kernel_rfl
 sizeByte:=by kernel_rfl
 neB5:=by decide
theorem extra169:Builder.Extra Tryz.prog lays169_ren where
 sizeBuilder:=by kernel_rfl
 liesBuilder:=by kernel_rfl
 t5:=by kernel_rfl
 a5:=λw=>by kernel_rfl
 z5:=λw=>by kernel_rfl
 v5:=λw=>by kernel_rfl
 infoByte:=by kernel_rfl
 cellsByte:=by kernel_rfl
 sizeByte:=by kernel_rfl
 neB5:=by decide
theorem knWrite (B b:Nat) (bs:List Value) (s:ByteArray) (w:World) (h:Lib.IsBuilder 62 5 B b bs w) (hlen:bs.length+s.size≤140737488355328) (hBw:B≤w.heap.size):
 Calls Tryz.prog 17 #[.pointer (some ⟨b,0,none⟩),.string s] w λe w'=>e=.returned (.tuple #[.int .i64 s.size,.nilIface])∧(Lib.BuilderAt 62 5 B b (.pointer (some ⟨b,0,none⟩)) (bs++Lib.strCells s) w'∧Below B w w'):=Any.Builder_WriteString lays166 extra166 B b bs s w h hlen hBw
theorem knString (B b:Nat) (l:List UInt8) (w:World) (h:Lib.IsBuilder 62 5 B b (Lib.byteCells l) w) (hBw:B≤w.heap.size):
 Calls Tryz.prog 18 #[.pointer (some ⟨b,0,none⟩)] w λe w'=>e=.returned (.string ⟨l.toArray⟩)∧Below B w w':=Any.Builder_String_any lays169 extra169 B b l w h hBw
theorem jt_append (a b:List ByteArray):jt (a++b)=jt a++jt b:=List.flatMap_append
theorem jt_take (os:List ByteArray) (j:Nat) (h:j<os.length):jt (os.take (j+1))=jt (os.take j)++(os[j].data.toList++[10]):=by
 rw[List.take_succ_eq_append_getElem h,jt_append]
 exact congrArg _ (List.append_nil _)
theorem jt_le (os:List ByteArray) (j:Nat):(jt (os.take j)).length≤(jt os).length:=by
 have h:=congrArg (λl=>(jt l).length) (List.take_append_drop j os)
 simp only[jt_append,List.length_append]at h
 omega
theorem knPutA (B:Nat) (bs:List UInt8) (o:ByteArray) (c:ByteArray) (hc:c=⟨#[10]⟩) (hsz:bs.length+o.size≤1000000000) (w:World) (hB:Lib.IsBuilder 62 5 B B (Lib.byteCells bs) w) (hBw:B≤w.heap.size):
 Calls Tryz.prog 17 #[.pointer (some ⟨B,0,none⟩),.string (o++c)] w λe w'=>e=.returned (.tuple #[.int .i64 (o++c).size,.nilIface])∧(Lib.IsBuilder 62 5 B B (Lib.byteCells (bs++(o.data.toList++[10]))) w'∧Below B w w'):=by
 have h6:c.size=1:=by subst hc;rfl
 have h4:(Lib.byteCells bs).length=bs.length:=by simp[Lib.byteCells]
 have h7:Lib.byteCells (bs++(o.data.toList++[10]))=Lib.byteCells bs++Lib.strCells (o++c):=by
  rw[Lib.strCells_eq];subst hc;simp[Lib.byteCells]
 have hw:=knWrite B B (Lib.byteCells bs) (o++c) w hB (by rw[h4,ByteArray.size_append];omega) hBw
 refine hw.mono ?_
 rintro e w' ⟨h1,h2,h3⟩
 rw[h7]
 exact⟨h1,.inr h2,h3⟩
theorem knPut (B:Nat) (os:List ByteArray) (j:Nat) (h:j<os.length) (hsz:(jt os).length≤1000000000) (w:World) (hB:Lib.IsBuilder 62 5 B B (Lib.byteCells (jt (os.take j))) w) (hBw:B≤w.heap.size) (c:ByteArray) (hc:c=⟨#[10]⟩):
 Calls Tryz.prog 17 #[.pointer (some ⟨B,0,none⟩),.string (os[j]++c)] w λe w'=>e=.returned (.tuple #[.int .i64 (os[j]++c).size,.nilIface])∧(Lib.IsBuilder 62 5 B B (Lib.byteCells (jt (os.take (j+1)))) w'∧Below B w w'):=by
 have hjt:=jt_take os j h
 have hle:=jt_le os (j+1)
 rw[hjt]at hle⊢
 refine knPutA B _ _ c hc ?_ w hB hBw
 simp only[List.length_append,List.length_cons,List.length_nil]at hle
 have h5:os[j].size=os[j].data.toList.length:=by simp
 omega
theorem isBuilder_lt {T e:TypeId} {B b:Nat} {bs:List Value} {w:World} (h:Lib.IsBuilder T e B b bs w):b<w.heap.size:=h.elim (·.lt) (·.lt)
theorem extra167:Builder.Extra Tryz.prog lays167_ren where
 sizeBuilder:=by kernel_rfl
 liesBuilder:=by kernel_rfl
 t5:=by kernel_rfl
 a5:=λw=>by kernel_rfl
 z5:=λw=>by kernel_rfl
 v5:=λw=>by kernel_rfl
 infoByte:=by kernel_rfl
 cellsByte:=by kernel_rfl
 sizeByte:=by kernel_rfl
 neB5:=by decide
theorem knWriteByte (B b:Nat) (bs:List Value) (c:Int) (w:World) (h:Lib.IsBuilder 62 5 B b bs w) (hlen:bs.length+1≤140737488355328) (hBw:B≤w.heap.size):
 Calls Tryz.prog 99 #[.pointer (some ⟨b,0,none⟩),.int .u8 c] w λe w'=>e=.returned .nilIface∧(Lib.BuilderAt 62 5 B b (.pointer (some ⟨b,0,none⟩)) (bs++[.int .u8 c]) w'∧Below B w w'):=Any.Builder_WriteByte lays167 extra167 B b bs c w h hlen hBw
def hexDigits:ByteArray:=⟨#[48,49,50,51,52,53,54,55,56,57,97,98,99,100,101,102]⟩
def hd (k:Nat):UInt8:=hexDigits.data.toList.getD k 0
theorem hd_eq (k:Nat) (h:k<16):hd k=(⟨#[48,49,50,51,52,53,54,55,56,57,97,98,99,100,101,102]⟩:ByteArray)[k]'h:=by
 have hl:k<hexDigits.data.toList.length:=h
 unfold hd
 rw[List.getD_eq_getElem?_getD,List.getElem?_eq_getElem hl]
 rfl
theorem and15 (b:UInt8):bits BinOp.and IntKind.u8 (b.toNat:Int) 15=((b.toNat%16:Nat):Int):=by
 rw[show(15:Int)=((15:Nat):Int)from rfl,u8_and_nat _ 15 b.toNat_lt (by decide)]
 rw[show(15:Nat)=2^4-1 from rfl,Nat.and_two_pow_sub_one_eq_mod]
def hex2 (b:UInt8):List UInt8:=[hd (b.toNat/16),hd (b.toNat%16)]
def hexT (s:ByteArray) (i:Nat):List UInt8:=(s.data.toList.take i).flatMap hex2
theorem hexT_succ (s:ByteArray) (i:Nat) (h:i<s.size):hexT s (i+1)=hexT s i++[hd (s[i].toNat/16)]++[hd (s[i].toNat%16)]:=by
 have hl:i<s.data.toList.length:=by simpa using h
 unfold hexT
 rw[List.take_succ_eq_append_getElem hl,List.flatMap_append]
 simp[hex2]
 exact⟨rfl,rfl⟩
theorem hexT_length (s:ByteArray) (i:Nat):(hexT s i).length≤2*i:=by
 unfold hexT
 have:∀l:List UInt8,(l.flatMap hex2).length=2*l.length:=by
  intro l
  induction l with
  |nil=>rfl
  |cons b r ih=>rw[List.flatMap_cons,List.length_append,ih];simp[hex2];omega
 rw[this,List.length_take];omega
def hexOf (s:ByteArray):ByteArray:=⟨(hexT s s.size).toArray⟩
theorem hdPut (B:Nat) (l:List UInt8) (c c':UInt8) (hcc:c=c') (w:World) (h:Lib.IsBuilder 62 5 B B (Lib.byteCells l) w) (hlen:l.length≤1000000000) (hBw:B≤w.heap.size):
 Calls Tryz.prog 99 #[.pointer (some ⟨B,0,none⟩),.int .u8 c'.toNat] w λe w'=>e=.returned .nilIface∧(Lib.IsBuilder 62 5 B B (Lib.byteCells (l++[c])) w'∧Below B w w'):=by
 subst hcc
 have h4:(Lib.byteCells l).length=l.length:=by simp[Lib.byteCells]
 refine(knWriteByte B B (Lib.byteCells l) c.toNat w h (by rw[h4];omega) hBw).mono ?_
 rintro e w' ⟨h1,h2,h3⟩
 have h7:Lib.byteCells (l++[c])=Lib.byteCells l++[.int .u8 c.toNat]:=by simp[Lib.byteCells]
 rw[h7]
 exact⟨h1,.inr h2,h3⟩
end Go.Kx
set_option linter.unusedVariables false
set_option linter.unusedSimpArgs false
noncomputable section
namespace Go.Kx
open Go Go.Conc Go.Proofs Go.RowKit
open Go.Kn
def at9 (a:Act):Nat:=match a.tmps[9]? with|some (Value.int _ k)=>k.toNat|_=>0
set_option maxHeartbeats 1000000 in
set_option maxRecDepth 100000 in
theorem hex_ok (s:ByteArray) (hs:s.size≤1000000) (hs0:0<s.size) (w:World):Calls Tryz.prog 54 #[.string s] w λe w'=>e=.returned (.string (hexOf s))∧Below w.heap.size w w':=by
 have hTe:s.toList.isEmpty=false:=by
  rw[ByteArray.toList_eq]
  have hl:0<s.data.toList.length:=by simpa using hs0
  cases hq:s.data.toList with
  |nil=>rw[hq]at hl;simp at hl
  |cons b r=>rfl
 refine calls_of_wpN Tryz.func54 rfl ?_
 simp only[Tryz.ntmps54,List.size_toArray,List.length_cons,List.length_nil,Nat.reduceAdd,Nat.reduceSub,Array.replicate_succ,
  Array.replicate_zero,List.push_toArray,List.append_toArray,List.nil_append,List.cons_append]
 refine wpN_seq (of_wp ?_)
 go_wp2
 refine wpN_seq ?_
 refine wpN_seq (of_wp ?_)
 go_wp2
 refine of_wp ?_
 go_wp2
 refine wpN_seq (of_wp ?_)
 go_wp2
 refine wpN_seq ?_
 refine wpN_seq (of_wp ?_)
 go_wp2
 refine wpN_block (wpN_loop (λa W=>∃(i:Nat) (u1 u4 u5 u6 u7 u10 u11 u12 u13 u14 u15 u16 u17 u18 u19 u20 u21 u22 u23 u24 u25:Value),i≤s.size∧Below w.heap.size w W∧Lib.IsBuilder 62 5 w.heap.size w.heap.size (Lib.byteCells (hexT s i)) W∧a={tmps:=#[.string s,u1,.string ⟨#[]⟩,.pointer (some ⟨w.heap.size,0,none⟩),u4,u5,u6,u7,.int .i64 (s.size:Nat),.int .i64 (i:Nat),u10,u11,u12,u13,u14,u15,u16,u17,u18,u19,u20,u21,u22,u23,u24,u25],defers:=[]}) (λa _=>s.size-at9 a) ?_ ?_)
 ·exact⟨0,_,_,_,_,_,_,_,_,_,_,_,_,_,_,_,_,_,_,_,_,_,Nat.zero_le _,(Below.refl _ w).alloc (Nat.le_refl _) _,Lib.fresh_isBuilder 62 5 w,rfl⟩
 ·rintro a W ⟨i,u1,u4,u5,u6,u7,u10,u11,u12,u13,u14,u15,u16,u17,u18,u19,u20,u21,u22,u23,u24,u25,hi,hb,hW,rfl⟩
  have hWs:=hb.size
  refine wpN_seq (of_wp ?_)
  go_wp2
  refine wpN_seq (of_wp ?_)
  go_wp2
  ·rename_i hlt
   have hi':i<s.size:=by omega
   have hll:=hexT_length s i
   have hsu:=hexT_succ s i hi'
   have hlt256:s[i].toNat<256:=s[i].toNat_lt
   have p1:=hdPut w.heap.size (hexT s i) (hd (s[i].toNat/16)) _ (hd_eq _ (by omega)) W hW (by omega) (by omega)
   have p2:=λ(W2:World) (hW2:Lib.IsBuilder 62 5 w.heap.size w.heap.size (Lib.byteCells (hexT s i++[hd (s[i].toNat/16)])) W2) (hb2:w.heap.size≤W2.heap.size)=>hdPut w.heap.size (hexT s i++[hd (s[i].toNat/16)]) (hd (s[i].toNat%16)) _ (hd_eq _ (by omega)) W2 hW2 (by rw[List.length_append];simp;omega) hb2
   have hand:=and15 s[i]
   refine wpN_seq (wpN_block ?_)
   refine wpN_seq (of_wp ?_)
   go_wp2
   refine wpN_seq (of_wp ?_)
   go_wp2_with (go_at_call 99;refine p1.mono ?_;rintro e W2 ⟨rfl,hW2,hb2⟩)
   have hs2:=hb2.size
   refine of_wp ?_
   go_wp2_with (go_at_call 99;go_loud (refine(p2 W2 hW2 (by omega)).mono ?_);rintro e W3 ⟨rfl,hW3,hb3⟩)
   refine of_wp ?_
   go_wp2
   exact⟨⟨i+1,_,_,_,_,_,_,_,_,_,_,_,_,_,_,_,_,_,_,_,_,_,by omega,hb.trans (hb2.trans hb3),by rw[hsu];exact hW3,rfl⟩,by simp[at9];omega⟩
  ·have hi2:i=s.size:=by omega
   subst hi2
   have p3:=knString w.heap.size w.heap.size (hexT s s.size) W hW hWs
   refine wpN_seq (of_wp ?_)
   go_wp2_with (go_at_call 18;refine p3.mono ?_;rintro e W2 ⟨rfl,hb2⟩)
   refine of_wp ?_
   go_wp2
   go_ret
   exact⟨rfl,hb.trans hb2⟩
end Go.Kx
set_option linter.unusedVariables false
set_option linter.unusedSimpArgs false
noncomputable section
namespace Go.Kx
open Go Go.Conc Go.Proofs Go.RowKit
open Go.Kn
theorem wpN_scope {P:Program} {Q:Exit→Act→World→Prop} {a:Act} {w:World} {c:Code} (h:WpN P c (Exit.noGoto Q) a w):WpN P (Code.scope c) Q a w:=by
 intro b k cs hb
 obtain⟨e,a₁,w₁,hq,harr⟩:=h b (.inScope c::k) cs hb
 cases e with
 |normal=>exact⟨.normal,a₁,w₁,hq,.head step_scope (Steps.trans harr (.one step_inScope))⟩
 |exit id=>exact⟨.exit id,a₁,w₁,hq,λk' hk=>.head step_scope (harr k' (by simp[exitTo,hk]))⟩
 |goto l=>exact hq.elim
 |ret=>exact⟨_,a₁,w₁,hq,.of_steps (.one step_scope) harr⟩
 |panic ch=>exact⟨_,a₁,w₁,hq,.of_steps (.one step_scope) harr⟩
 |outgrown=>exact⟨_,a₁,w₁,hq,.of_steps (.one step_scope) harr⟩
theorem ops_sel_cons {P:Program} {Q:Exit→Act→World→Prop} {a:Act} {w:World} {ops:Array Oper} {i:Nat} {rest:List Nat} {o:Oper} {c cap s r:Nat} {x:Value} {xs:List Value} {closed:Bool} {z:Value} (ho:ops[i]?=some o) (hw:Region.wanted o (yielded ops a.tmps)=true)
 (hr:(execOp a.eval o).run P w=.ok (.comm #[rcase c z] false .select) w) (hc:w.heap[c]?=some (.chan cap (x::xs).toArray closed s r false))
 (h:∀W,W=w.setChan c cap xs.toArray closed s (r+1) false→OpsTo P ops Q rest (a.put o.dst (.tuple #[.int .i64 0,.bool true,x])) W):OpsTo P ops Q (i::rest) a w:=by
 have h2:=h _ rfl
 refine ops_sel_buf ho hw hr hc (by simp) ?_
 have e:(x::xs).toArray.extract 1 (x::xs).toArray.size=xs.toArray:=by simp
 rw[e]
 exact h2
theorem ops_two {P:Program} {Q:Exit→Act→World→Prop} {a:Act} {w:World} {ops:Array Oper} {k:Nat} {o1 o2:Oper} (h1:ops[k]?=some o1) (h2:ops[k+1]?=some o2) (h:wpList P ops Q [o1,o2] a w):OpsTo P ops Q [k,k+1] a w:=
 ops_rest [o1,o2] k (by
  intro j hj
  match j,hj with
  |0,_=>exact h1
  |1,_=>exact h2) h
structure Filled (w:World) (os:List ByteArray) (i:Nat) (W:World):Prop where
 below:Below w.heap.size w W
 chan:∃s,W.heap[w.heap.size]?=some (.chan os.length ((os.take i).map Value.string).toArray false s 0 false)
def at11 (a:Act):Nat:=match a.tmps[11]? with|some (Value.int _ k)=>k.toNat|_=>0
theorem run_close {P:Program} {W:World} {c cap s r:Nat} {buf:Array Value} {t:Array TypeId} {ty:TypeId} (h:W.heap[c]?=some (.chan cap buf false s r false)):(Builtin.close_ t ty #[.chan (some c)]).run P W=.ok (.tuple #[]) (W.setChan c cap buf true s r false):=by
 rw[run_close_open t ty h]
 rfl
set_option maxHeartbeats 1000000 in
set_option maxRecDepth 100000 in
theorem lines_ok (os:List ByteArray) (hos:os.length≤1000000) (A off cap:Nat) (w:World) (hA:A<w.heap.size) (hcell:∀(i:Nat) (h:i<os.length),w.cell? ⟨A,off+i,none⟩=some (.string os[i])):
 Calls Tryz.prog 15 #[.slice (some ⟨A,off,none⟩) os.length cap] w λe w'=>e=.returned (.chan (some w.heap.size))∧Below w.heap.size w w'∧∃s,w'.heap[w.heap.size]?=some (.chan os.length (os.map Value.string).toArray true s 0 false):=by
 have hinfo9:(Tryz.prog.info? 9).map (λi=>(i.zero,i.size,i.bytes))=some (some (.string ByteArray.empty),1,16):=by kernel_rfl
 obtain⟨i9,hi9,hz9,hs9,hb9⟩:=info_parts hinfo9
 have hmk:∀W,(Instr.makeChan 107 (.int .i64 (os.length:Nat))).run Tryz.prog W=.ok (.chan (some W.heap.size)) (W.alloc (.chan os.length #[] false 0 0 false)):=λW=>by
  have:=run_makeChan (P:=Tryz.prog) (w:=W) Tryz.underlying107 hi9 .i64 os.length (by omega) (by rw[hb9];omega)
  simpa using this
 refine calls_of_wpN Tryz.func15 rfl ?_
 simp only[Tryz.ntmps15,List.size_toArray,List.length_cons,List.length_nil,Nat.reduceAdd,Nat.reduceSub,Array.replicate_succ,
  Array.replicate_zero,List.push_toArray,List.append_toArray,List.nil_append,List.cons_append]
 refine wpN_seq (of_wp ?_)
 go_wp2
 refine wpN_seq (of_wp ?_)
 go_wp2
 refine wpN_seq ?_
 refine wpN_seq (of_wp ?_)
 go_wp2
 have h0:Filled w os 0 (w.alloc (.chan os.length #[] false 0 0 false)):=⟨(Below.refl _ w).alloc (Nat.le_refl _) _,0,heap_alloc_new w _⟩
 refine wpN_block (wpN_loop (λa W=>∃(i:Nat) (u1 u4 u5 u6 u7 u8 u12 u13 u14 u15 u16 u17 u18 u19:Value),i≤os.length∧Filled w os i W∧a={tmps:=#[.slice (some ⟨A,off,none⟩) os.length cap,u1,.chan none,.chan (some w.heap.size),u4,u5,u6,u7,u8,.slice (some ⟨A,off,none⟩) os.length cap,.int .i64 (os.length:Nat),.int .i64 (i:Nat),u12,u13,u14,u15,u16,u17,u18,u19],defers:=[]}) (λa _=>os.length-at11 a) ?_ ?_)
 ·exact⟨0,_,_,_,_,_,_,_,_,_,_,_,_,_,_,Nat.zero_le _,h0,rfl⟩
 ·rintro a W ⟨i,u1,u4,u5,u6,u7,u8,u12,u13,u14,u15,u16,u17,u18,u19,hi,hS,rfl⟩
  refine wpN_seq (of_wp ?_)
  go_wp2
  refine wpN_seq (of_wp ?_)
  go_wp2
  ·rename_i hlt
   have hi':i<os.length:=by omega
   have hc:=(hS.below.cell hA).trans (hcell i hi')
   obtain⟨hb,s,hch⟩:=hS
   have q2:w.heap.size<W.heap.size:=(Array.getElem?_eq_some_iff.1 hch).1
   have hS3:Filled w os (i+1) (W.setChan w.heap.size os.length (((os.take i).map Value.string).toArray.push (.string os[i])) false (s+1) 0 false):=by
    refine⟨below_setChan hb (Nat.le_refl _) _ _ _ _ _ _,s+1,?_⟩
    have e5:(os.take (i+1)).map Value.string=(os.take i).map Value.string++[.string os[i]]:=by rw[List.take_succ_eq_append_getElem hi',List.map_append];rfl
    rw[heap_setChan _ _ _ _ _ _ _ _ q2,e5]
    simp only[List.push_toArray]
   clear h0 hmk
   generalize os[i]=oi at hc hS3
   refine wpN_seq (wpN_block ?_)
   refine wpN_seq (of_wp ?_)
   go_wp2
   refine wpN_cut 2 (by decide) ?_
   simp only[List.take_succ_cons,List.take_zero]
   go_wp2
   refine .inl ⟨rfl,?_⟩
   show OpsTo _ _ _ [2] _ _
   refine ops_send (v:=.string oi) (z:=.tuple #[]) rfl rfl (by simp[execOp,Act.eval,scase]) hch (by
    have h2:=List.length_take_le i os
    simp
    omega) (OpsTo.nil ?_)
   generalize W.setChan _ _ _ _ _ _ _=W4 at hS3⊢
   refine of_wp ?_
   go_wp2
   exact⟨⟨i+1,_,_,_,_,_,_,_,_,_,_,_,_,_,_,by omega,hS3,rfl⟩,by simp[at11];omega⟩
  ·have hi2:i=os.length:=by omega
   subst hi2
   obtain⟨hb,s,hch⟩:=hS
   rw[List.take_of_length_le (Nat.le_refl _)]at hch
   have q2:w.heap.size<W.heap.size:=(Array.getElem?_eq_some_iff.1 hch).1
   have hcl:=λt ty=>run_close (P:=Tryz.prog) (t:=t) (ty:=ty) hch
   refine wpN_seq (of_wp ?_)
   go_wp2
   have hb5:=below_setChan hb (Nat.le_refl _) os.length (os.map Value.string).toArray true s 0 false
   have hc5:=heap_setChan W w.heap.size os.length (os.map Value.string).toArray true s 0 false q2
   generalize W.setChan _ _ _ _ _ _ _=W5 at hb5 hc5⊢
   refine wpN_seq (of_wp ?_)
   go_wp2
   refine of_wp ?_
   go_wp2
   go_ret
   exact⟨rfl,hb5,s,hc5⟩
end Go.Kx
